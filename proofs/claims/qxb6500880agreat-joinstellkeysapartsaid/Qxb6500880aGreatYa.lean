import Derived.Deep.CutBlock
import Derived.OwnWalk
import Derived.Maps.AppendAt
import Derived.Maps.OwnSet
import Derived.Maps.OwnOps
import Derived.Laws.ResultCell
import Derived.Test.Qxb6500880aGreatX
set_option linter.unusedVariables false
set_option linter.unusedSimpArgs false
namespace Go.Proofs.Qxb6500880aGreat
open Go.RowKit

/-- A compiled rule, with all its blocks told. -/
structure Rl where
  u : RuS
  RB : Nat
  gj : Nat
  cj : Nat
  ga : Nat → Nat
  ca : Nat → Nat
  gq : Nat
  cq : Nat
def Rl.has (ρ : Rl) (q : Nat) : Prop := q = ρ.RB ∨ q = ρ.gj ∨ q = ρ.gq ∨ ∃ j, j < ρ.u.m ∧ q = ρ.ga j
structure RuX (w : World) (ρ : Rl) : Prop where
  c0 : w.cell? ⟨ρ.RB, 0, none⟩ = some (.int .i64 0)
  c1 : w.cell? ⟨ρ.RB, 1, none⟩ = some (.pointer (some ⟨ρ.u.hb, 0, none⟩))
  c2 : w.cell? ⟨ρ.RB, 2, none⟩ = some (.slice (some ⟨ρ.gq, 0, none⟩) ρ.u.nh ρ.cq)
  c4 : w.cell? ⟨ρ.RB, 4, none⟩ = some (.slice (some ⟨ρ.gj, 0, none⟩) ρ.u.m ρ.cj)
  c5 : w.cell? ⟨ρ.RB, 5, none⟩ = some (.slice none 0 0)
  c7 : w.cell? ⟨ρ.RB, 7, none⟩ = some (.int .i64 (ρ.u.R : Int))
  fz : ∀ o, w.frozen? ⟨ρ.RB, o, none⟩ = false
  j : ∀ j, j < ρ.u.m → w.cell? ⟨ρ.gj, j * 3, none⟩ = some (.pointer (some ⟨ρ.u.rb j, 0, none⟩)) ∧ w.cell? ⟨ρ.gj, j * 3 + 1, none⟩ = some (.slice (some ⟨ρ.ga j, 0, none⟩) (ρ.u.nn j) (ρ.ca j)) ∧ w.cell? ⟨ρ.gj, j * 3 + 2, none⟩ = some (.int .i64 (j : Int))
  o : ∀ j, j < ρ.u.m → ∀ t, t < ρ.u.nn j → w.cell? ⟨ρ.ga j, t * 2, none⟩ = some (.int .i64 (ρ.u.F j t : Int)) ∧ w.cell? ⟨ρ.ga j, t * 2 + 1, none⟩ = some (.int .u32 0)
  of : ∀ j, j < ρ.u.m → ∀ o, w.frozen? ⟨ρ.ga j, o, none⟩ = false
  oc : ∀ j, j < ρ.u.m → ρ.u.nn j ≤ ρ.ca j
  h : ∀ t, t < ρ.u.nh → w.cell? ⟨ρ.gq, t * 2, none⟩ = some (.int .i64 (ρ.u.Fh t : Int)) ∧ w.cell? ⟨ρ.gq, t * 2 + 1, none⟩ = some (.int .u32 0)
  hf : ∀ o, w.frozen? ⟨ρ.gq, o, none⟩ = false
  hc : ρ.u.nh ≤ ρ.cq
  mc : ρ.u.m ≤ ρ.cj
  N : RuN ρ.u
  m0 : 0 < ρ.u.m
theorem RuX.keep {w w' : World} {ρ : Rl} (h : RuX w ρ) (hk : ∀ q, ρ.has q → w'.heap[q]? = w.heap[q]?) : RuX w' ρ := by
  have e := hk ρ.RB (.inl rfl)
  have ej := hk ρ.gj (.inr (.inl rfl))
  have eq := hk ρ.gq (.inr (.inr (.inl rfl)))
  have eo : ∀ j, j < ρ.u.m → w'.heap[ρ.ga j]? = w.heap[ρ.ga j]? := fun j hj => hk _ (.inr (.inr (.inr ⟨j, hj, rfl⟩)))
  exact ⟨(World.cell?_of_block (a := ⟨ρ.RB, 0, none⟩) e).trans h.c0, (World.cell?_of_block (a := ⟨ρ.RB, 1, none⟩) e).trans h.c1, (World.cell?_of_block (a := ⟨ρ.RB, 2, none⟩) e).trans h.c2, (World.cell?_of_block (a := ⟨ρ.RB, 4, none⟩) e).trans h.c4, (World.cell?_of_block (a := ⟨ρ.RB, 5, none⟩) e).trans h.c5, (World.cell?_of_block (a := ⟨ρ.RB, 7, none⟩) e).trans h.c7, fun o => (World.frozen?_of_block (a := ⟨ρ.RB, o, none⟩) e).trans (h.fz o), fun j hj => ⟨(World.cell?_of_block (a := ⟨ρ.gj, j * 3, none⟩) ej).trans (h.j j hj).1, (World.cell?_of_block (a := ⟨ρ.gj, j * 3 + 1, none⟩) ej).trans (h.j j hj).2.1, (World.cell?_of_block (a := ⟨ρ.gj, j * 3 + 2, none⟩) ej).trans (h.j j hj).2.2⟩,
    fun j hj t ht => ⟨(World.cell?_of_block (a := ⟨ρ.ga j, t * 2, none⟩) (eo j hj)).trans (h.o j hj t ht).1, (World.cell?_of_block (a := ⟨ρ.ga j, t * 2 + 1, none⟩) (eo j hj)).trans (h.o j hj t ht).2⟩, fun j hj o => (World.frozen?_of_block (a := ⟨ρ.ga j, o, none⟩) (eo j hj)).trans (h.of j hj o), h.oc,
    fun t ht => ⟨(World.cell?_of_block (a := ⟨ρ.gq, t * 2, none⟩) eq).trans (h.h t ht).1, (World.cell?_of_block (a := ⟨ρ.gq, t * 2 + 1, none⟩) eq).trans (h.h t ht).2⟩, fun o => (World.frozen?_of_block (a := ⟨ρ.gq, o, none⟩) eq).trans (h.hf o), h.hc, h.mc, h.N, h.m0⟩
theorem RuX.lt {w : World} {ρ : Rl} (h : RuX w ρ) {q : Nat} (hq : ρ.has q) : q < w.heap.size := by
  rcases hq with e | e | e | ⟨j, hj, e⟩
  · subst e; exact World.block_lt_of_cell? _ _ h.c0
  · subst e; exact World.block_lt_of_cell? _ _ (h.j 0 h.m0).1
  · subst e; exact World.block_lt_of_cell? _ _ (h.h 0 h.N.h0).1
  · subst e; exact World.block_lt_of_cell? _ _ (h.o j hj 0 (h.N.n0 j hj)).1
theorem RuX.below {w w' : World} {ρ : Rl} (h : RuX w ρ) (hb : Below w.heap.size w w') : RuX w' ρ := h.keep (fun q hq => hb.block q (h.lt hq))
theorem RuX.ops {w : World} {ρ : Rl} (h : RuX w ρ) {j : Nat} (hj : j < ρ.u.m) : OpsAt w (.slice (some ⟨ρ.ga j, 0, none⟩) (ρ.u.nn j) (ρ.ca j)) (ρ.u.nn j) (ρ.u.F j) :=
  ⟨_, _, rfl, h.oc j hj, .inr ⟨ρ.ga j, rfl, fun t ht => ⟨(h.o j hj t ht).1, (h.o j hj t ht).2, h.of j hj⟩⟩⟩
theorem RuX.hops {w : World} {ρ : Rl} (h : RuX w ρ) : OpsAt w (.slice (some ⟨ρ.gq, 0, none⟩) ρ.u.nh ρ.cq) ρ.u.nh ρ.u.Fh :=
  ⟨_, _, rfl, h.hc, .inr ⟨ρ.gq, rfl, fun t ht => ⟨(h.h t ht).1, (h.h t ht).2, h.hf⟩⟩⟩
/-- A rule that stays has all its blocks where it was laid. -/
theorem RuSt.told {lo : Nat} {w : World} {RB : Nat} {u : RuS} (h : RuSt lo w RB u) (N : RuN u) (hm : 0 < u.m) : ∃ ρ : Rl, RuX w ρ ∧ ρ.RB = RB ∧ ρ.u = u ∧ ∀ q, ρ.has q → lo ≤ q := by
  let wx : World := { w with heap := Array.ofFn (n := w.heap.size) (fun i => if lo ≤ i.val then w.heap[i.val] else .cells #[] 0) }
  have hx : ∀ q, lo ≤ q → q < w.heap.size → wx.heap[q]? = w.heap[q]? := fun q h1 h2 => by
    show (Array.ofFn _)[q]? = _
    rw [Array.getElem?_ofFn]
    simp [h1, h2]
  have hy : ∀ q o v, wx.cell? ⟨q, o, none⟩ = some v → lo ≤ q ∧ q < w.heap.size := fun q o v hq => by
    have h1 : q < wx.heap.size := World.block_lt_of_cell? _ _ hq
    have h2 : q < w.heap.size := by
      have : wx.heap.size = w.heap.size := Array.size_ofFn
      omega
    refine ⟨?_, h2⟩
    by_cases z : lo ≤ q
    · exact z
    · have e : wx.heap[q]? = some (.cells #[] 0) := by
        show (Array.ofFn _)[q]? = _
        rw [Array.getElem?_ofFn]
        simp [z, h2]
      unfold World.cell? at hq
      simp [e] at hq
  have cw : ∀ q o v, wx.cell? ⟨q, o, none⟩ = some v → w.cell? ⟨q, o, none⟩ = some v := fun q o v hq => (World.cell?_of_block (a := ⟨q, o, none⟩) (hx q (hy q o v hq).1 (hy q o v hq).2)).symm.trans hq
  obtain ⟨⟨hv, J, l, ⟨a0, a1, a2, a3, a4, a5, a6, a7⟩, HJ, HO, HH⟩, fz⟩ := h wx hx
  obtain ⟨pj, cj, ej, hcj, HJ'⟩ := HJ
  rcases HJ' with z | ⟨gj, e2, HJ'⟩
  · omega
  subst e2
  subst ej
  obtain ⟨pq, cq, eq, hcq, HH'⟩ := HH
  rcases HH' with z | ⟨gq, e3, HH'⟩
  · have := N.h0; omega
  subst e3
  subst eq
  have HX : ∀ j, ∃ g c, j < u.m → l j = .slice (some ⟨g, 0, none⟩) (u.nn j) c ∧ u.nn j ≤ c ∧ ∀ t, t < u.nn j → wx.cell? ⟨g, t * 2, none⟩ = some (.int .i64 (u.F j t : Int)) ∧ wx.cell? ⟨g, t * 2 + 1, none⟩ = some (.int .u32 0) ∧ ∀ o, wx.frozen? ⟨g, o, none⟩ = false := fun j => by
    by_cases hj : j < u.m
    · obtain ⟨p, c, e, hc, h⟩ := HO j hj
      rcases h with h | ⟨g, e', h⟩
      · have := N.n0 j hj; omega
      · subst e'
        exact ⟨g, c, fun _ => ⟨e, hc, h⟩⟩
    · exact ⟨0, 0, fun h => absurd h hj⟩
  let ga : Nat → Nat := fun j => (HX j).choose
  let ca : Nat → Nat := fun j => (HX j).choose_spec.choose
  have HY : ∀ j, j < u.m → l j = .slice (some ⟨ga j, 0, none⟩) (u.nn j) (ca j) ∧ u.nn j ≤ ca j ∧ ∀ t, t < u.nn j → wx.cell? ⟨ga j, t * 2, none⟩ = some (.int .i64 (u.F j t : Int)) ∧ wx.cell? ⟨ga j, t * 2 + 1, none⟩ = some (.int .u32 0) ∧ ∀ o, wx.frozen? ⟨ga j, o, none⟩ = false := fun j hj => (HX j).choose_spec.choose_spec hj
  clear_value ga ca
  have eR := hx RB (hy _ _ _ a0).1 (hy _ _ _ a0).2
  refine ⟨⟨u, RB, gj, cj, ga, ca, gq, cq⟩, ⟨cw _ _ _ a0, cw _ _ _ a1, cw _ _ _ a2, cw _ _ _ a4, cw _ _ _ a5, cw _ _ _ a7, fun o => (World.frozen?_of_block (a := ⟨RB, o, none⟩) eR).symm.trans (fz o), fun j hj => ?_, fun j hj t ht => ?_, fun j hj o => ?_, fun j hj => (HY j hj).2.1, fun t ht => ⟨cw _ _ _ (HH' t ht).1, cw _ _ _ (HH' t ht).2.1⟩, fun o => ?_, hcq, hcj, N, hm⟩, rfl, rfl, ?_⟩
  · obtain ⟨b0, b1, b2⟩ := HJ' j hj
    rw [(HY j hj).1] at b1
    exact ⟨cw _ _ _ b0, cw _ _ _ b1, cw _ _ _ b2⟩
  · obtain ⟨b0, b1, b2⟩ := (HY j hj).2.2 t ht
    exact ⟨cw _ _ _ b0, cw _ _ _ b1⟩
  · obtain ⟨b0, b1, b2⟩ := (HY j hj).2.2 0 (N.n0 j hj)
    exact (World.frozen?_of_block (a := ⟨ga j, o, none⟩) (hx _ (hy _ _ _ b0).1 (hy _ _ _ b0).2)).symm.trans (b2 o)
  · obtain ⟨b0, b1, b2⟩ := HH' 0 N.h0
    exact (World.frozen?_of_block (a := ⟨gq, o, none⟩) (hx _ (hy _ _ _ b0).1 (hy _ _ _ b0).2)).symm.trans (b2 o)
  · intro q hq
    rcases hq with e | e | e | ⟨j, hj, e⟩
    · subst e; exact (hy _ _ _ a0).1
    · subst e; exact (hy _ _ _ (HJ' 0 hm).1).1
    · subst e; exact (hy _ _ _ (HH' 0 N.h0).1).1
    · subst e; exact (hy _ _ _ ((HY j hj).2.2 0 (N.n0 j hj)).1).1
/-- A compiled atom at offset o of block gj. -/
structure AtX (w : World) (gj o rq ga n ca : Nat) (f : Nat → Nat) : Prop where
  a0 : w.cell? ⟨gj, o, none⟩ = some (.pointer (some ⟨rq, 0, none⟩))
  a1 : w.cell? ⟨gj, o + 1, none⟩ = some (.slice (some ⟨ga, 0, none⟩) n ca)
  c : ∀ t, t < n → w.cell? ⟨ga, t * 2, none⟩ = some (.int .i64 (f t : Int)) ∧ w.cell? ⟨ga, t * 2 + 1, none⟩ = some (.int .u32 0)
  nc : n ≤ ca
  n0 : 0 < n
theorem AtX.keep {w w' : World} {gj o rq ga n ca : Nat} {f : Nat → Nat} (h : AtX w gj o rq ga n ca f) (e1 : w'.heap[gj]? = w.heap[gj]?) (e2 : w'.heap[ga]? = w.heap[ga]?) : AtX w' gj o rq ga n ca f :=
  ⟨(World.cell?_of_block (a := ⟨gj, o, none⟩) e1).trans h.a0, (World.cell?_of_block (a := ⟨gj, o + 1, none⟩) e1).trans h.a1, fun t ht => ⟨(World.cell?_of_block (a := ⟨ga, t * 2, none⟩) e2).trans (h.c t ht).1, (World.cell?_of_block (a := ⟨ga, t * 2 + 1, none⟩) e2).trans (h.c t ht).2⟩, h.nc, h.n0⟩
theorem AtX.lt {w : World} {gj o rq ga n ca : Nat} {f : Nat → Nat} (h : AtX w gj o rq ga n ca f) : gj < w.heap.size ∧ ga < w.heap.size := ⟨World.block_lt_of_cell? _ _ h.a0, World.block_lt_of_cell? _ _ (h.c 0 h.n0).1⟩
theorem RuX.atx {w : World} {ρ : Rl} (h : RuX w ρ) {j : Nat} (hj : j < ρ.u.m) : AtX w ρ.gj (j * 3) (ρ.u.rb j) (ρ.ga j) (ρ.u.nn j) (ρ.ca j) (ρ.u.F j) :=
  ⟨(h.j j hj).1, (h.j j hj).2.1, h.o j hj, h.oc j hj, h.N.n0 j hj⟩
end Go.Proofs.Qxb6500880aGreat
