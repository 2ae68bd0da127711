import Derived.Deep.CutBlock
import Derived.OwnWalk
import Derived.Maps.AppendAt
import Derived.Maps.OwnSet
import Derived.Maps.OwnOps
import Derived.Laws.ResultCell
import Derived.Test.Qxb6500880aY
set_option linter.unusedVariables false
set_option linter.unusedSimpArgs false
namespace Go.Proofs.Qxb6500880a
open Go.RowKit

/-- A compiled rule, with all its blocks told. -/
structure Rl where
  RB : Nat
  hb : Nat
  rb : Nat
  n : Nat
  m : Nat
  R : Nat
  F : Nat → Nat → Nat
  hp : Option Addr
  hc : Nat
  gj : Nat
  cj : Nat
  ga : Nat → Nat
  ca : Nat → Nat
def Rl.has (ρ : Rl) (q : Nat) : Prop := q = ρ.RB ∨ q = ρ.gj ∨ ∃ j, j < ρ.m ∧ q = ρ.ga j
structure RuX (w : World) (ρ : Rl) : Prop where
  c0 : w.cell? ⟨ρ.RB, 0, none⟩ = some (.int .i64 0)
  c1 : w.cell? ⟨ρ.RB, 1, none⟩ = some (.pointer (some ⟨ρ.hb, 0, none⟩))
  c2 : w.cell? ⟨ρ.RB, 2, none⟩ = some (.slice ρ.hp 0 ρ.hc)
  c4 : w.cell? ⟨ρ.RB, 4, none⟩ = some (.slice (some ⟨ρ.gj, 0, none⟩) ρ.m ρ.cj)
  c5 : w.cell? ⟨ρ.RB, 5, none⟩ = some (.slice none 0 0)
  c7 : w.cell? ⟨ρ.RB, 7, none⟩ = some (.int .i64 (ρ.R : Int))
  fz : ∀ o, w.frozen? ⟨ρ.RB, o, none⟩ = false
  j : ∀ j, j < ρ.m → w.cell? ⟨ρ.gj, j * 3, none⟩ = some (.pointer (some ⟨ρ.rb, 0, none⟩)) ∧ w.cell? ⟨ρ.gj, j * 3 + 1, none⟩ = some (.slice (some ⟨ρ.ga j, 0, none⟩) ρ.n (ρ.ca j)) ∧ w.cell? ⟨ρ.gj, j * 3 + 2, none⟩ = some (.int .i64 (j : Int))
  o : ∀ j, j < ρ.m → ∀ t, t < ρ.n → w.cell? ⟨ρ.ga j, t * 2, none⟩ = some (.int .i64 (ρ.F j t : Int)) ∧ w.cell? ⟨ρ.ga j, t * 2 + 1, none⟩ = some (.int .u32 0)
  of : ∀ j, j < ρ.m → ∀ o, w.frozen? ⟨ρ.ga j, o, none⟩ = false
  oc : ∀ j, j < ρ.m → ρ.n ≤ ρ.ca j
  r : ∀ j t, j < ρ.m → t < ρ.n → ρ.F j t < ρ.R
  mc : ρ.m ≤ ρ.cj
  n0 : 0 < ρ.n
  m0 : 0 < ρ.m
theorem RuX.keep {w w' : World} {ρ : Rl} (h : RuX w ρ) (hk : ∀ q, ρ.has q → w'.heap[q]? = w.heap[q]?) : RuX w' ρ := by
  have e := hk ρ.RB (.inl rfl)
  have ej := hk ρ.gj (.inr (.inl rfl))
  have eo : ∀ j, j < ρ.m → w'.heap[ρ.ga j]? = w.heap[ρ.ga j]? := fun j hj => hk _ (.inr (.inr ⟨j, hj, rfl⟩))
  exact ⟨(World.cell?_of_block (a := ⟨ρ.RB, 0, none⟩) e).trans h.c0, (World.cell?_of_block (a := ⟨ρ.RB, 1, none⟩) e).trans h.c1, (World.cell?_of_block (a := ⟨ρ.RB, 2, none⟩) e).trans h.c2, (World.cell?_of_block (a := ⟨ρ.RB, 4, none⟩) e).trans h.c4, (World.cell?_of_block (a := ⟨ρ.RB, 5, none⟩) e).trans h.c5, (World.cell?_of_block (a := ⟨ρ.RB, 7, none⟩) e).trans h.c7, fun o => (World.frozen?_of_block (a := ⟨ρ.RB, o, none⟩) e).trans (h.fz o), fun j hj => ⟨(World.cell?_of_block (a := ⟨ρ.gj, j * 3, none⟩) ej).trans (h.j j hj).1, (World.cell?_of_block (a := ⟨ρ.gj, j * 3 + 1, none⟩) ej).trans (h.j j hj).2.1, (World.cell?_of_block (a := ⟨ρ.gj, j * 3 + 2, none⟩) ej).trans (h.j j hj).2.2⟩,
    fun j hj t ht => ⟨(World.cell?_of_block (a := ⟨ρ.ga j, t * 2, none⟩) (eo j hj)).trans (h.o j hj t ht).1, (World.cell?_of_block (a := ⟨ρ.ga j, t * 2 + 1, none⟩) (eo j hj)).trans (h.o j hj t ht).2⟩, fun j hj o => (World.frozen?_of_block (a := ⟨ρ.ga j, o, none⟩) (eo j hj)).trans (h.of j hj o), h.oc, h.r, h.mc, h.n0, h.m0⟩
theorem RuX.lt {w : World} {ρ : Rl} (h : RuX w ρ) {q : Nat} (hq : ρ.has q) : q < w.heap.size := by
  rcases hq with e | e | ⟨j, hj, e⟩
  · subst e; exact World.block_lt_of_cell? _ _ h.c0
  · subst e; exact World.block_lt_of_cell? _ _ (h.j 0 h.m0).1
  · subst e; exact World.block_lt_of_cell? _ _ (h.o j hj 0 h.n0).1
theorem RuX.below {w w' : World} {ρ : Rl} (h : RuX w ρ) (hb : Below w.heap.size w w') : RuX w' ρ := h.keep (fun q hq => hb.block q (h.lt hq))
theorem RuX.ops {w : World} {ρ : Rl} (h : RuX w ρ) {j : Nat} (hj : j < ρ.m) : OpsAt w (.slice (some ⟨ρ.ga j, 0, none⟩) ρ.n (ρ.ca j)) ρ.n (ρ.F j) :=
  ⟨_, _, rfl, h.oc j hj, .inr ⟨ρ.ga j, rfl, fun t ht => ⟨(h.o j hj t ht).1, (h.o j hj t ht).2, h.of j hj⟩⟩⟩
/-- A rule that stays has all its blocks where it was laid. -/
theorem RuSt.told {lo : Nat} {w : World} {RB hb rb n m R : Nat} {F : Nat → Nat → Nat} (h : RuSt lo w RB hb rb n m F R) (hn : 0 < n) (hm : 0 < m) : ∃ ρ : Rl, RuX w ρ ∧ ρ.RB = RB ∧ ρ.hb = hb ∧ ρ.rb = rb ∧ ρ.n = n ∧ ρ.m = m ∧ ρ.R = R ∧ ρ.F = F ∧ ∀ q, ρ.has q → lo ≤ q := by
  let wx : World := { w with heap := Array.ofFn (n := w.heap.size) (fun i => if lo ≤ i.val then w.heap[i.val] else .cells #[] 0) }
  have hx : ∀ q, lo ≤ q → q < w.heap.size → wx.heap[q]? = w.heap[q]? := fun q h1 h2 => by
    show (Array.ofFn _)[q]? = _
    rw [Array.getElem?_ofFn]
    simp [h1, h2]
  have hy : ∀ q o v, wx.cell? ⟨q, o, none⟩ = some v → lo ≤ q ∧ q < w.heap.size := fun q o v hq => by
    have h1 : q < wx.heap.size := World.block_lt_of_cell? _ _ hq
    have h2 : q < w.heap.size := by
      have : wx.heap.size = w.heap.size := Array.size_ofFn
      omega
    refine ⟨?_, h2⟩
    by_cases z : lo ≤ q
    · exact z
    · have e : wx.heap[q]? = some (.cells #[] 0) := by
        show (Array.ofFn _)[q]? = _
        rw [Array.getElem?_ofFn]
        simp [z, h2]
      unfold World.cell? at hq
      simp [e] at hq
  have cw : ∀ q o v, wx.cell? ⟨q, o, none⟩ = some v → w.cell? ⟨q, o, none⟩ = some v := fun q o v hq => (World.cell?_of_block (a := ⟨q, o, none⟩) (hx q (hy q o v hq).1 (hy q o v hq).2)).symm.trans hq
  obtain ⟨⟨hp, hc, J, l, ⟨a0, a1, a2, a3, a4, a5, a6, a7⟩, HJ, HO⟩, fz, hr⟩ := h wx hx
  obtain ⟨pj, cj, ej, hcj, HJ'⟩ := HJ
  rcases HJ' with z | ⟨gj, e2, HJ'⟩
  · omega
  subst e2
  subst ej
  have HX : ∀ j, ∃ g c, j < m → l j = .slice (some ⟨g, 0, none⟩) n c ∧ n ≤ c ∧ ∀ t, t < n → wx.cell? ⟨g, t * 2, none⟩ = some (.int .i64 (F j t : Int)) ∧ wx.cell? ⟨g, t * 2 + 1, none⟩ = some (.int .u32 0) ∧ ∀ o, wx.frozen? ⟨g, o, none⟩ = false := fun j => by
    by_cases hj : j < m
    · obtain ⟨p, c, e, hc, h⟩ := HO j hj
      rcases h with h | ⟨g, e', h⟩
      · omega
      · subst e'
        exact ⟨g, c, fun _ => ⟨e, hc, h⟩⟩
    · exact ⟨0, 0, fun h => absurd h hj⟩
  let ga : Nat → Nat := fun j => (HX j).choose
  let ca : Nat → Nat := fun j => (HX j).choose_spec.choose
  have HY : ∀ j, j < m → l j = .slice (some ⟨ga j, 0, none⟩) n (ca j) ∧ n ≤ ca j ∧ ∀ t, t < n → wx.cell? ⟨ga j, t * 2, none⟩ = some (.int .i64 (F j t : Int)) ∧ wx.cell? ⟨ga j, t * 2 + 1, none⟩ = some (.int .u32 0) ∧ ∀ o, wx.frozen? ⟨ga j, o, none⟩ = false := fun j hj => (HX j).choose_spec.choose_spec hj
  clear_value ga ca
  have eR := hx RB (hy _ _ _ a0).1 (hy _ _ _ a0).2
  refine ⟨⟨RB, hb, rb, n, m, R, F, hp, hc, gj, cj, ga, ca⟩, ⟨cw _ _ _ a0, cw _ _ _ a1, cw _ _ _ a2, cw _ _ _ a4, cw _ _ _ a5, cw _ _ _ a7, fun o => (World.frozen?_of_block (a := ⟨RB, o, none⟩) eR).symm.trans (fz o), fun j hj => ?_, fun j hj t ht => ?_, fun j hj o => ?_, fun j hj => (HY j hj).2.1, hr, hcj, hn, hm⟩, rfl, rfl, rfl, rfl, rfl, rfl, rfl, ?_⟩
  · obtain ⟨b0, b1, b2⟩ := HJ' j hj
    rw [(HY j hj).1] at b1
    exact ⟨cw _ _ _ b0, cw _ _ _ b1, cw _ _ _ b2⟩
  · obtain ⟨b0, b1, b2⟩ := (HY j hj).2.2 t ht
    exact ⟨cw _ _ _ b0, cw _ _ _ b1⟩
  · obtain ⟨b0, b1, b2⟩ := (HY j hj).2.2 0 hn
    exact (World.frozen?_of_block (a := ⟨ga j, o, none⟩) (hx _ (hy _ _ _ b0).1 (hy _ _ _ b0).2)).symm.trans (b2 o)
  · intro q hq
    rcases hq with e | e | ⟨j, hj, e⟩
    · subst e; exact (hy _ _ _ a0).1
    · subst e; exact (hy _ _ _ (HJ' 0 hm).1).1
    · subst e; exact (hy _ _ _ ((HY j hj).2.2 0 hn).1).1
end Go.Proofs.Qxb6500880a
