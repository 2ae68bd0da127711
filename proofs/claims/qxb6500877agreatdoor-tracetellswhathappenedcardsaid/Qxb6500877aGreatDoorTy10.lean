import Derived.Deep.CutBlock
import Derived.OwnWalk
import Derived.Maps.AppendAt
import Derived.Test.Qxb6500877aGreatDoorTy8
import Derived.Test.Qxb6500877aGreatDoorTw
import Derived.Test.Qxb6500877aGreatDoorQn
import Derived.Test.Qxb6500877aGreatDoorQl
set_option linter.unusedVariables false
set_option linter.unusedSimpArgs false
namespace Go.Proofs.Qxb6500877aGreatDoor
open Go.RowKit

theorem ML.blocks {w w' : World} {B mb t k : Nat} {ν : Net} {τ : TSt} {σ : Sg} {T : TS} {V : Value} {l : List EvS} (h : ML w B mb t k ν τ σ T V l) (hs : w.heap.size ≤ w'.heap.size) (hk : ∀ q, (q ≤ 2 ∨ q = B ∨ q = mb ∨ q = T.C ∨ q = T.R ∨ q = T.F ∨ V.ownBlock = some q) → w'.heap[q]? = w.heap[q]?) : ML w' B mb t k ν τ σ T V l := by
  have eB := hk B (.inr (.inl rfl))
  refine ⟨h.m.blocks (fun q hq => ?_), (World.cell?_of_block (a := ⟨B, 6752, none⟩) eB).trans h.s, h.tr.keep (fun q hq => hk q ?_), h.d, Nat.le_trans h.sz hs⟩
  · by_cases z : q = B
    · subst z
      unfold blk0
      simp only [World.setCell, Array.getElem?_modify]
      rw [if_pos trivial, if_pos trivial, eB]
    · unfold blk0
      rw [far_set z, far_set z]
      refine hk q ?_
      rcases hq with q2 | q2 | q2
      · exact .inl q2
      · exact .inr (.inl q2)
      · exact .inr (.inr (.inl q2))
  · rcases hq with z | z | z | z
    · exact .inr (.inr (.inr (.inl z)))
    · exact .inr (.inr (.inr (.inr (.inl z))))
    · exact .inr (.inr (.inr (.inr (.inr (.inl z)))))
    · exact .inr (.inr (.inr (.inr (.inr (.inr z)))))
/-- The law at work: the machine that is looked at, and the plain one. -/
structure LT (w0 w : World) (B mb B2 mb2 : Nat) (T : TS) (t k : Nat) (ν : Net) (τ : TSt) (σ : Sg) (Λ : W.LS) (t2 k2 : Nat) (ν2 : Net) (τ2 : TSt) (σ2 : Sg) : Prop where
  m : W.Mach w B mb t k ν τ σ Λ
  p : Mach w B2 mb2 t2 k2 ν2 τ2 σ2
  e : Λ.T = T
  b : Below w0.heap.size w0 w
  h0 : 2 < w0.heap.size ∧ (w0.heap.size ≤ B ∧ w0.heap.size ≤ mb) ∧ (w0.heap.size ≤ B2 ∧ w0.heap.size ≤ mb2) ∧ w0.heap.size ≤ T.C ∧ w0.heap.size ≤ T.R ∧ w0.heap.size ≤ T.F ∧ w0.heap.size ≤ T.b
  d : (B2 ≠ B ∧ B2 ≠ mb ∧ mb2 ≠ B ∧ mb2 ≠ mb) ∧ (B2 ≠ T.C ∧ B2 ≠ T.R ∧ B2 ≠ T.F) ∧ (mb2 ≠ T.C ∧ mb2 ≠ T.R ∧ mb2 ≠ T.F) ∧ B2 < T.b ∧ mb2 < T.b
/-- A block that no machine and no onlooker uses. -/
structure Fre (B mb B2 mb2 : Nat) (Λ : W.LS) (q : Nat) : Prop where
  n : q ≠ B ∧ q ≠ mb ∧ q ≠ B2 ∧ q ≠ mb2
  f : W.Far Λ q
theorem LT.keep {w0 w : World} {B mb B2 mb2 t k t2 k2 : Nat} {ν ν2 : Net} {τ τ2 : TSt} {σ σ2 : Sg} {T : TS} {Λ : W.LS} {w' : World} (h : LT w0 w B mb B2 mb2 T t k ν τ σ Λ t2 k2 ν2 τ2 σ2) (hb : Below w.heap.size w w') : LT w0 w' B mb B2 mb2 T t k ν τ σ Λ t2 k2 ν2 τ2 σ2 :=
  ⟨h.m.below hb, h.p.below hb, h.e, below_to h.b hb h.b.size, h.h0, h.d⟩
theorem LT.drew {w0 w : World} {B mb B2 mb2 t k t2 k2 : Nat} {ν ν2 : Net} {τ τ2 : TSt} {σ σ2 : Sg} {T : TS} {Λ : W.LS} (h : LT w0 w B mb B2 mb2 T t k ν τ σ Λ t2 k2 ν2 τ2 σ2) : LT w0 w.drew B mb B2 mb2 T t k ν τ σ Λ t2 k2 ν2 τ2 σ2 := h.keep (below_dr (Below.refl _ _))
theorem LT.own {w0 w : World} {B mb B2 mb2 t k t2 k2 : Nat} {ν ν2 : Net} {τ τ2 : TSt} {σ σ2 : Sg} {T : TS} {Λ : W.LS} (h : LT w0 w B mb B2 mb2 T t k ν τ σ Λ t2 k2 ν2 τ2 σ2) {q : Nat} (hq : Λ.V.ownBlock = some q) : T.b ≤ q ∧ q < w.heap.size := by
  have := h.m.h.tr.own.lt q hq
  rw [h.e] at this
  exact this
theorem LT.low {w0 w : World} {B mb B2 mb2 t k t2 k2 : Nat} {ν ν2 : Net} {τ τ2 : TSt} {σ σ2 : Sg} {T : TS} {Λ : W.LS} (h : LT w0 w B mb B2 mb2 T t k ν τ σ Λ t2 k2 ν2 τ2 σ2) {q : Nat} (hq : q < T.b) (hc : q ≠ T.C ∧ q ≠ T.R ∧ q ≠ T.F) : W.Far Λ q := by
  refine ⟨by rw [h.e]; exact hc.1, by rw [h.e]; exact hc.2.1, by rw [h.e]; exact hc.2.2, fun z => ?_⟩
  have := (h.own z).1
  omega
theorem LT.fre {w0 w : World} {B mb B2 mb2 t k t2 k2 : Nat} {ν ν2 : Net} {τ τ2 : TSt} {σ σ2 : Sg} {T : TS} {Λ : W.LS} (h : LT w0 w B mb B2 mb2 T t k ν τ σ Λ t2 k2 ν2 τ2 σ2) {q : Nat} (hq : w.heap.size ≤ q) : Fre B mb B2 mb2 Λ q := by
  have a1 := h.m.lt
  have a2 := h.m.mlt
  have a3 := h.p.lt
  have a4 := h.p.mlt
  exact ⟨by omega, h.m.far hq⟩
/-- The machine that is looked at steps. -/
theorem LT.one {w0 w : World} {B mb B2 mb2 t k t2 k2 : Nat} {ν ν2 : Net} {τ τ2 : TSt} {σ σ2 : Sg} {T : TS} {Λ : W.LS} {w2 : World} {t' k' : Nat} {ν' : Net} {τ' : TSt} {σ' : Sg} {Λ' : W.LS} (h : LT w0 w B mb B2 mb2 T t k ν τ σ Λ t2 k2 ν2 τ2 σ2) (D : W.Done w w2 B mb t' k' ν' τ' σ' Λ Λ') : LT w0 w2 B mb B2 mb2 T t' k' ν' τ' σ' Λ' t2 k2 ν2 τ2 σ2 := by
  obtain ⟨⟨d1, d2, d3, d4⟩, d5, d6, d7, d8⟩ := h.d
  obtain ⟨h1, ⟨h2, h3⟩, ⟨h4, h5⟩, h6, h7, h8, h9⟩ := h.h0
  have a3 := h.p.lt
  have a4 := h.p.mlt
  have hs := h.b.size
  have low : ∀ q, q < w0.heap.size → w2.heap[q]? = w.heap[q]? := fun q hq => D.f.block q (by omega) (by omega) (by omega) (h.low (by omega) (by omega))
  refine ⟨D.m, h.p.blocks (fun q hq => ?_), D.f.e.trans h.e, ⟨D.f.os.trans h.b.os, D.f.tape.trans h.b.tape, D.f.output.trans h.b.output, Nat.le_trans hs D.f.size, fun q hq => (low q hq).trans (h.b.block q hq)⟩, h.h0, h.d⟩
  rcases hq with z | rfl | rfl
  · exact low q (by omega)
  · exact D.f.block _ a3 d1 d2 (h.low d7 d5)
  · exact D.f.block _ a4 d3 d4 (h.low d8 d6)
theorem Fre.one {w w2 : World} {B mb B2 mb2 t' k' : Nat} {ν' : Net} {τ' : TSt} {σ' : Sg} {Λ Λ' : W.LS} {q : Nat} (h : Fre B mb B2 mb2 Λ q) (D : W.Done w w2 B mb t' k' ν' τ' σ' Λ Λ') (hq : q < w.heap.size) : Fre B mb B2 mb2 Λ' q ∧ w2.heap[q]? = w.heap[q]? :=
  ⟨⟨h.n, D.f.row q hq h.f⟩, D.f.block q hq h.n.1 h.n.2.1 h.f⟩
/-- The plain machine steps. -/
theorem LT.two {w0 w : World} {B mb B2 mb2 t k t2 k2 : Nat} {ν ν2 : Net} {τ τ2 : TSt} {σ σ2 : Sg} {T : TS} {Λ : W.LS} {w2 : World} {t' k' : Nat} {ν' : Net} {τ' : TSt} {σ' : Sg} (h : LT w0 w B mb B2 mb2 T t k ν τ σ Λ t2 k2 ν2 τ2 σ2) (D : Done w w2 B2 mb2 t' k' ν' τ' σ') : LT w0 w2 B mb B2 mb2 T t k ν τ σ Λ t' k' ν' τ' σ' := by
  obtain ⟨⟨d1, d2, d3, d4⟩, ⟨d5, d5', d5''⟩, ⟨d6, d6', d6''⟩, d7, d8⟩ := h.d
  obtain ⟨h1, ⟨h2, h3⟩, ⟨h4, h5⟩, h6, h7, h8, h9⟩ := h.h0
  have a1 := h.m.lt
  have a2 := h.m.mlt
  have hz := h.m.h.sz
  obtain ⟨l1, l2, l3, _⟩ := h.m.h.tr.lt
  have he := h.e
  have hs := h.b.size
  have low : ∀ q, q < w0.heap.size → w2.heap[q]? = w.heap[q]? := fun q hq => D.f.block q (by omega) (by omega) (by omega)
  refine ⟨⟨h.m.h.blocks D.f.size (fun q hq => ?_)⟩, D.m, he, ⟨D.f.os.trans h.b.os, D.f.tape.trans h.b.tape, D.f.output.trans h.b.output, Nat.le_trans hs D.f.size, fun q hq => (low q hq).trans (h.b.block q hq)⟩, h.h0, h.d⟩
  rw [he] at hq l1 l2 l3 hz
  rcases hq with z | rfl | rfl | rfl | rfl | rfl | z
  · exact low q (by omega)
  · exact D.f.block _ a1 (fun z => d1 z.symm) (fun z => d3 z.symm)
  · exact D.f.block _ a2 (fun z => d2 z.symm) (fun z => d4 z.symm)
  · exact D.f.block _ (by omega) (fun z => d5 z.symm) (fun z => d6 z.symm)
  · exact D.f.block _ (by omega) (fun z => d5' z.symm) (fun z => d6' z.symm)
  · exact D.f.block _ (by omega) (fun z => d5'' z.symm) (fun z => d6'' z.symm)
  · have := h.own z
    exact D.f.block _ this.2 (by omega) (by omega)
/-- The cells of a snapshot that the law reads. -/
structure SN (w : World) (q : Nat) (ν : Net) (σ : Sg) : Prop where
  cur : ∀ c, c < 4 → w.cell? ⟨q, 49 + c * 10, none⟩ = some (.int .i64 (σ.s.cur c))
  t0 : ∀ x, x < 16 → w.cell? ⟨q, 1 + x * 3, none⟩ = some (.int .u8 (σ.s.tk x).st)
  t1 : ∀ x, x < 16 → w.cell? ⟨q, 1 + x * 3 + 1, none⟩ = some (.int .i64 (σ.s.tk x).home)
  t2 : ∀ x, x < 16 → w.cell? ⟨q, 1 + x * 3 + 2, none⟩ = some (.int .i64 (IntKind.i64.wrap (σ.s.tk x).band))
  acc : ∀ b, b < 16 → w.cell? ⟨q, 105 + b, none⟩ = some (.int .u64 (ν.box b).acc)
theorem SN.blk {w w' : World} {q : Nat} {ν : Net} {σ : Sg} (h : SN w q ν σ) (e : w'.heap[q]? = w.heap[q]?) : SN w' q ν σ :=
  ⟨fun c hc => (World.cell?_of_block (a := ⟨q, 49 + c * 10, none⟩) e).trans (h.cur c hc), fun x hx => (World.cell?_of_block (a := ⟨q, 1 + x * 3, none⟩) e).trans (h.t0 x hx), fun x hx => (World.cell?_of_block (a := ⟨q, 1 + x * 3 + 1, none⟩) e).trans (h.t1 x hx), fun x hx => (World.cell?_of_block (a := ⟨q, 1 + x * 3 + 2, none⟩) e).trans (h.t2 x hx), fun b hb => (World.cell?_of_block (a := ⟨q, 105 + b, none⟩) e).trans (h.acc b hb)⟩
theorem SN.lt {w : World} {q : Nat} {ν : Net} {σ : Sg} (h : SN w q ν σ) : q < w.heap.size := World.block_lt_of_cell? _ _ (h.cur 0 (by omega))
theorem sn_new {w : World} {t base : Nat} {ν : Net} {τ : TSt} {σ : Sg} {S : Snap} {cs : Array Value} (hS : SnapOf t ν τ σ S) (hs : cs.size = 123) (h : ∀ j u, cs[j]? = some u → SCell w base S j u) : SN (w.alloc (.cells cs 61)) w.heap.size ν σ := by
  have key : ∀ j, j < 123 → ∃ u, (w.alloc (.cells cs 61)).cell? ⟨w.heap.size, j, none⟩ = some u ∧ SCell w base S j u := fun j hj => by
    have e : cs[j]? = some (cs[j]'(by omega)) := Array.getElem?_eq_getElem _
    refine ⟨cs[j]'(by omega), ?_, h j _ e⟩
    rw [cell_of_row _ _ _ cs 61 (0, 0) (heap_alloc_last w _)]
    exact e
  obtain ⟨Q, l, _, _, rfl⟩ := hS
  refine ⟨fun c hc => ?_, fun x hx => ?_, fun x hx => ?_, fun x hx => ?_, fun b hb => ?_⟩
  · obtain ⟨u, e1, e2⟩ := key (49 + c * 10) (by omega)
    unfold SCell at e2
    rw [if_neg (by omega), if_neg (by omega), if_pos (by omega), if_pos (by omega)] at e2
    rw [e1, e2, show (49 + c * 10 - 49) / 10 = c by omega]
    rfl
  · obtain ⟨u, e1, e2⟩ := key (1 + x * 3) (by omega)
    unfold SCell at e2
    rw [if_neg (by omega), if_pos (by omega), if_pos (by omega)] at e2
    rw [e1, e2, show (1 + x * 3 - 1) / 3 = x by omega]
    rfl
  · obtain ⟨u, e1, e2⟩ := key (1 + x * 3 + 1) (by omega)
    unfold SCell at e2
    rw [if_neg (by omega), if_pos (by omega), if_neg (by omega), if_pos (by omega)] at e2
    rw [e1, e2, show (1 + x * 3 + 1 - 1) / 3 = x by omega]
    rfl
  · obtain ⟨u, e1, e2⟩ := key (1 + x * 3 + 2) (by omega)
    unfold SCell at e2
    rw [if_neg (by omega), if_pos (by omega), if_neg (by omega), if_neg (by omega)] at e2
    rw [e1, e2, show (1 + x * 3 + 2 - 1) / 3 = x by omega]
    rfl
  · obtain ⟨u, e1, e2⟩ := key (105 + b) (by omega)
    unfold SCell at e2
    rw [if_neg (by omega), if_neg (by omega), if_neg (by omega), if_neg (by omega), if_pos (by omega)] at e2
    rw [e1, e2, show 105 + b - 105 = b by omega]
    rfl
theorem EvIn.below {w w' : World} {v : Value} {l : List EvS} (h : EvIn w v l) (hb : Below w.heap.size w w') : EvIn w' v l := by
  obtain ⟨p, c, rfl, h⟩ := h
  refine ⟨p, c, rfl, ?_⟩
  rcases h with h | ⟨g, off, e, h⟩
  · exact .inl h
  · exact .inr ⟨g, off, e, fun j x hx => (h j x hx).blk (hb.block g (h j x hx).lt)⟩
/-- The tail of the events, cut off as a slice. -/
theorem ev_tail {w : World} {base : Nat} {p : Option Addr} {m cap : Nat} {l es : List EvS} (h : w.ownsRow base 123 9 (.slice p m cap) (l ++ es).length (evCells (l ++ es))) (hm : m = (l ++ es).length) : ∃ p9 c9, (∀ w', (Instr.slice 111 (.slice p m cap) (some (.int .i64 ((l.length : Nat) : Int))) none none).run Tryz.prog w' = .ok (.slice p9 es.length c9) w') ∧ EvIn w (.slice p9 es.length c9) es := by
  have hlm : l.length ≤ m := by rw [hm, List.length_append]; omega
  have hel : m - l.length = es.length := by rw [hm, List.length_append]; omega
  refine ⟨if cap = l.length then p else p.map (·.add (l.length * 9)), cap - l.length, fun w' => ?_, ?_⟩
  · have hu : Tryz.prog.underlying 111 = some (.slice (Tryz.prog.elem 111)) := by kernel_rfl
    have hsz : (sizeOf (Tryz.prog.elem 111)).run Tryz.prog w' = .ok 9 w' := by kernel_rfl
    rw [run_slice_l w' 111 p m cap hu .i64 ((l.length : Nat) : Int) (by omega) (by omega), hsz]
    simp only [Result.andThen, sliced, Int.toNat_natCast, hel]
  · refine ⟨_, _, rfl, ?_⟩
    by_cases he : es = []
    · exact .inl he
    · have hpos : 0 < es.length := List.length_pos_iff.2 he
      obtain ⟨p', c', e1, E⟩ := EvIn.of_own h
      simp only [Value.slice.injEq] at e1
      obtain ⟨rfl, _, rfl⟩ := e1
      rcases E with E | ⟨g, off, rfl, E⟩
      · rw [List.append_eq_nil_iff] at E
        exact absurd E.2 he
      · have hcap : m ≤ cap := by
          rcases h.2 with ⟨z, _⟩ | ⟨g', cap', cur, z, _, _, r⟩
          · simp at z
          · simp only [Value.slice.injEq] at z
            have := r.1
            omega
        refine .inr ⟨g, off + l.length * 9, ?_, fun j e hj => ?_⟩
        · rw [if_neg (by omega)]
          by_cases z : l.length * 9 = 0
          · rw [z]
            simp [Addr.add]
          · simp [Addr.add, z]
        · have := E (l.length + j) e (by rw [List.getElem?_append_right (by omega), Nat.add_sub_cancel_left]; exact hj)
          rw [show off + l.length * 9 + j * 9 = off + (l.length + j) * 9 by omega]
          exact this
end Go.Proofs.Qxb6500877aGreatDoor
