import Derived.Deep.CutBlock
import Derived.OwnWalk
import Derived.Maps.AppendAt
import Derived.Test.Qxb6500877aGreatDoorTr4
import Derived.Test.Qxb6500877aGreatDoorQn
set_option linter.unusedVariables false
set_option linter.unusedSimpArgs false
namespace Go.Proofs.Qxb6500877aGreatDoor
open Go.RowKit

theorem own_one {w w' : World} {base e s n : Nat} {v : Value} {xs : List Value} (h : w.ownsRow base e s v n xs) (hk : ∀ q, v.ownBlock = some q → w'.heap[q]? = w.heap[q]?) : w'.ownsRow base e s v n xs := by
  refine ⟨h.1, ?_⟩
  rcases h.2 with q | ⟨g, cap, cur, e1, h1, h2, r⟩
  · exact .inl q
  · subst e1
    exact .inr ⟨g, cap, cur, rfl, h1, (hk g rfl).trans h2, r⟩
theorem TrAt.keep {w w' : World} {C R F N b : Nat} {V : Value} {l : List EvS} (h : TrAt w C R F N b V l) (hk : ∀ q, (q = C ∨ q = R ∨ q = F ∨ V.ownBlock = some q) → w'.heap[q]? = w.heap[q]?) : TrAt w' C R F N b V l :=
  ⟨(World.cell?_of_block (a := ⟨C, 0, none⟩) (hk C (.inl rfl))).trans h.c0, (World.cell?_of_block (a := ⟨C, 1, none⟩) (hk C (.inl rfl))).trans h.c1, fun o => (World.frozen?_of_block (a := ⟨C, o, none⟩) (hk C (.inl rfl))).trans (h.fz o), own_one h.own (fun q hq => hk q (.inr (.inr (.inr hq)))), RingX.two h.ring (hk R (.inr (.inl rfl))) (hk F (.inr (.inr (.inl rfl)))), h.hN, h.lt⟩
/-- Where the onlooker lies. -/
structure TS where
  C : Nat
  R : Nat
  F : Nat
  N : Nat
  b : Nat
/-- The world as it were if nobody looked on. -/
def blk0 (w : World) (B : Nat) : World := w.setCell ⟨B, 6752, none⟩ .nilIface
/-- A machine that is looked at. -/
structure ML (w : World) (B mb t k : Nat) (ν : Net) (τ : TSt) (σ : Sg) (T : TS) (V : Value) (l : List EvS) : Prop where
  m : Mach (blk0 w B) B mb t k ν τ σ
  s : w.cell? ⟨B, 6752, none⟩ = some (.iface 110 (.pointer (some ⟨T.C, 0, none⟩)))
  tr : TrAt w T.C T.R T.F T.N T.b V l
  d : (T.C ≠ B ∧ T.R ≠ B ∧ T.F ≠ B) ∧ (T.C ≠ mb ∧ T.R ≠ mb ∧ T.F ≠ mb) ∧ (2 < T.C ∧ 2 < T.R ∧ 2 < T.F) ∧ B < T.b ∧ mb < T.b ∧ 2 < T.b
  sz : T.b ≤ w.heap.size
/-- What a method of such a machine leaves as it was. -/
structure LF (B mb : Nat) (T : TS) (V V' : Value) (w w' : World) : Prop where
  os : w'.os = w.os
  tape : w'.tape = w.tape
  output : w'.output = w.output
  size : w.heap.size ≤ w'.heap.size
  block : ∀ q, q < w.heap.size → q ≠ B → q ≠ mb → q ≠ T.C → q ≠ T.R → q ≠ T.F → V.ownBlock ≠ some q → w'.heap[q]? = w.heap[q]?
  row : V'.ownBlock = V.ownBlock ∨ ∃ q, V'.ownBlock = some q ∧ w.heap.size ≤ q
theorem LF.refl (B mb : Nat) (T : TS) (V : Value) (w : World) : LF B mb T V V w w := ⟨rfl, rfl, rfl, Nat.le_refl _, fun _ _ _ _ _ _ _ _ => rfl, .inl rfl⟩
theorem LF.trans {B mb : Nat} {T : TS} {V V1 V2 : Value} {w w1 w2 : World} (h : LF B mb T V V1 w w1) (g : LF B mb T V1 V2 w1 w2) : LF B mb T V V2 w w2 := by
  refine ⟨g.os.trans h.os, g.tape.trans h.tape, g.output.trans h.output, Nat.le_trans h.size g.size, fun q h1 h2 h3 h4 h5 h6 h7 => ?_, ?_⟩
  · have hs := h.size
    refine (g.block q (by omega) h2 h3 h4 h5 h6 (fun e => ?_)).trans (h.block q h1 h2 h3 h4 h5 h6 h7)
    rcases h.row with z | ⟨p, z1, z2⟩
    · exact h7 (z.symm.trans e)
    · rw [z1] at e
      have : p = q := Option.some.inj e
      omega
  · rcases g.row with z | ⟨p, z1, z2⟩
    · rw [z]; exact h.row
    · exact .inr ⟨p, z1, Nat.le_trans h.size z2⟩
theorem LF.below {B mb : Nat} {T : TS} {V V1 : Value} {w w1 w2 : World} (h : LF B mb T V V1 w w1) (g : Below w1.heap.size w1 w2) : LF B mb T V V1 w w2 := h.trans ⟨g.os, g.tape, g.output, g.size, fun q h1 _ _ _ _ _ _ => g.block q h1, .inl rfl⟩
theorem LF.drew {B mb : Nat} {T : TS} {V V1 : Value} {w w1 : World} (h : LF B mb T V V1 w w1) : LF B mb T V V1 w w1.drew := h.below (below_dr (Below.refl _ _))
theorem mut_blk (w : World) (B : Nat) : Mut B 6752 6753 (blk0 w B) w :=
  ⟨rfl, rfl, rfl, by simp [blk0], fun k _ hk => (far_set hk).symm, fun o => (World.frozen?_setCell _ _ _ _).symm, fun o ho => (World.cell?_setCell_other _ _ _ _ (by simp <;> omega)).symm⟩
theorem blk_cell {w : World} {B o : Nat} (h : o ≠ 6752) : (blk0 w B).cell? ⟨B, o, none⟩ = w.cell? ⟨B, o, none⟩ := World.cell?_setCell_other _ _ _ _ (by simp <;> omega)
theorem blk_size (w : World) (B : Nat) : (blk0 w B).heap.size = w.heap.size := by simp [blk0]
theorem ML.blt {w : World} {B mb t k : Nat} {ν : Net} {τ : TSt} {σ : Sg} {T : TS} {V : Value} {l : List EvS} (h : ML w B mb t k ν τ σ T V l) : B < w.heap.size := by have := h.m.lt; rw [blk_size] at this; exact this
theorem ML.mlt {w : World} {B mb t k : Nat} {ν : Net} {τ : TSt} {σ : Sg} {T : TS} {V : Value} {l : List EvS} (h : ML w B mb t k ν τ σ T V l) : mb < w.heap.size := by have := h.m.mlt; rw [blk_size] at this; exact this
theorem ML.clk {w : World} {B mb t k : Nat} {ν : Net} {τ : TSt} {σ : Sg} {T : TS} {V : Value} {l : List EvS} (h : ML w B mb t k ν τ σ T V l) : w.cell? ⟨B, 0, none⟩ = some (.int .u64 (t : Int)) := by rw [← blk_cell (by omega)]; exact h.m.clk
theorem ML.frz {w : World} {B mb t k : Nat} {ν : Net} {τ : TSt} {σ : Sg} {T : TS} {V : Value} {l : List EvS} (h : ML w B mb t k ν τ σ T V l) (o : Nat) : w.frozen? ⟨B, o, none⟩ = false := (World.frozen?_setCell _ _ _ _).symm.trans (h.m.frz o)
theorem ML.sch {w : World} {B mb t k : Nat} {ν : Net} {τ : TSt} {σ : Sg} {T : TS} {V : Value} {l : List EvS} (h : ML w B mb t k ν τ σ T V l) : SchedAt w B σ.s ∧ SOk σ.s := ⟨h.m.sch.1.mut (mut_blk w B) (by omega), h.m.sch.2⟩
theorem ML.net {w : World} {B mb t k : Nat} {ν : Net} {τ : TSt} {σ : Sg} {T : TS} {V : Value} {l : List EvS} (h : ML w B mb t k ν τ σ T V l) : NetAt w B ν ∧ NOk ν k := ⟨h.m.net.1.mut (mut_blk w B) (by omega), h.m.net.2⟩
theorem ML.tim {w : World} {B mb t k : Nat} {ν : Net} {τ : TSt} {σ : Sg} {T : TS} {V : Value} {l : List EvS} (h : ML w B mb t k ν τ σ T V l) : ∃ s L fr f, TimersAt w B k s f ∧ WInv s L fr f [] ∧ s.now = t ∧ s.mb = mb ∧ TW s L fr f τ k := by
  obtain ⟨s, L, fr, f, T1, r⟩ := h.m.tim
  exact ⟨s, L, fr, f, T1.mut (mut_blk w B) (by omega), r⟩
theorem ML.sts {w : World} {B mb t k : Nat} {ν : Net} {τ : TSt} {σ : Sg} {T : TS} {V : Value} {l : List EvS} (h : ML w B mb t k ν τ σ T V l) {j : Nat} (hj : j < 28) : w.cell? ⟨B, 6724 + j, none⟩ = some (.int .u64 (σ.st j)) := by rw [← blk_cell (by omega)]; exact h.m.sts j hj
theorem Mut3.blank {B mb lo hi base : Nat} {w w' : World} (M : Mut3 B lo hi mb base w w') (h : hi ≤ 6752) (hs : ∃ v, w.cell? ⟨B, 6752, none⟩ = some v) (hmb : mb ≠ B) : Mut3 B lo hi mb base (blk0 w B) (blk0 w' B) := by
  obtain ⟨v, hv⟩ := hs
  refine ⟨M.os, M.tape, M.output, by rw [blk_size, blk_size]; exact M.size, fun q h1 h2 h3 => ?_, fun o => ?_, fun o ho => ?_⟩
  · exact (far_set h2).trans ((M.block q h1 h2 h3).trans (far_set h2).symm)
  · unfold blk0
    rw [World.frozen?_setCell, World.frozen?_setCell]; exact M.frz o
  · by_cases q : o = 6752
    · subst q
      unfold blk0
      rw [World.cell?_setCell_same _ _ _ hv, World.cell?_setCell_same _ _ _ ((M.cell 6752 (by omega)).trans hv)]
    · rw [blk_cell q, blk_cell q]; exact M.cell o ho
theorem Mut.blank {B lo hi : Nat} {w w' : World} (M : Mut B lo hi w w') (h : hi ≤ 6752) (hs : ∃ v, w.cell? ⟨B, 6752, none⟩ = some v) : Mut B lo hi (blk0 w B) (blk0 w' B) := by
  obtain ⟨v, hv⟩ := hs
  refine ⟨M.os, M.tape, M.output, by rw [blk_size, blk_size]; exact M.size, fun q h1 h2 => ?_, fun o => ?_, fun o ho => ?_⟩
  · rw [blk_size] at h1
    exact (far_set h2).trans ((M.block q h1 h2).trans (far_set h2).symm)
  · unfold blk0
    rw [World.frozen?_setCell, World.frozen?_setCell]; exact M.frz o
  · by_cases q : o = 6752
    · subst q
      unfold blk0
      rw [World.cell?_setCell_same _ _ _ hv, World.cell?_setCell_same _ _ _ ((M.cell 6752 (by omega)).trans hv)]
    · rw [blk_cell q, blk_cell q]; exact M.cell o ho
/-- The machine turned, its onlooker did not see it yet. -/
theorem ML.turn3 {w w' : World} {B mb t k : Nat} {ν : Net} {τ : TSt} {σ : Sg} {T : TS} {V : Value} {l : List EvS} {lo hi t' k' : Nat} {ν' : Net} {τ' : TSt} {σ' : Sg} (h : ML w B mb t k ν τ σ T V l) (M : Mut3 B lo hi mb w.heap.size w w') (hi_ : hi ≤ 6752) (m' : Mach (blk0 w' B) B mb t' k' ν' τ' σ') : ML w' B mb t' k' ν' τ' σ' T V l ∧ LF B mb T V V w w' := by
  obtain ⟨⟨d1, d2, d3⟩, ⟨d4, d5, d6⟩, _, d7, d8, _⟩ := h.d
  obtain ⟨l1, l2, l3, _⟩ := h.tr.lt
  have hz := h.sz
  refine ⟨⟨m', (M.cell 6752 (by omega)).trans h.s, h.tr.keep (fun q hq => ?_), h.d, Nat.le_trans hz M.size⟩, ⟨M.os, M.tape, M.output, M.size, fun q h1 h2 h3 _ _ _ _ => M.block q h1 h2 h3, .inl rfl⟩⟩
  rcases hq with rfl | rfl | rfl | hq
  · exact M.block _ (by omega) d1 d4
  · exact M.block _ (by omega) d2 d5
  · exact M.block _ (by omega) d3 d6
  · have := h.tr.own.lt q hq
    exact M.block _ this.2 (by omega) (by omega)
theorem ML.turn {w w' : World} {B mb t k : Nat} {ν : Net} {τ : TSt} {σ : Sg} {T : TS} {V : Value} {l : List EvS} {lo hi t' k' : Nat} {ν' : Net} {τ' : TSt} {σ' : Sg} (h : ML w B mb t k ν τ σ T V l) (M : Mut B lo hi w w') (hi_ : hi ≤ 6752) (m' : Mach (blk0 w' B) B mb t' k' ν' τ' σ') : ML w' B mb t' k' ν' τ' σ' T V l ∧ LF B mb T V V w w' := h.turn3 (M.to2.to3 (Nat.le_refl _)) hi_ m'
theorem ML.below {w w' : World} {B mb t k : Nat} {ν : Net} {τ : TSt} {σ : Sg} {T : TS} {V : Value} {l : List EvS} (h : ML w B mb t k ν τ σ T V l) (hb : Below w.heap.size w w') : ML w' B mb t k ν τ σ T V l := by
  have M : Mut B 0 0 w w' := Mut.of_below hb h.blt
  exact (h.turn M (by omega) (h.m.keep (M.blank (by omega) ⟨_, h.s⟩))).1
theorem ML.drew {w : World} {B mb t k : Nat} {ν : Net} {τ : TSt} {σ : Sg} {T : TS} {V : Value} {l : List EvS} (h : ML w B mb t k ν τ σ T V l) : ML w.drew B mb t k ν τ σ T V l := h.below (below_dr (Below.refl _ _))
theorem ML.mono {w : World} {B mb t k : Nat} {ν : Net} {τ : TSt} {σ : Sg} {T : TS} {V : Value} {l : List EvS} {k' : Nat} (h : ML w B mb t k ν τ σ T V l) (hk : k ≤ k') : ML w B mb t k' ν τ σ T V l := ⟨h.m.mono hk, h.s, h.tr, h.d, h.sz⟩
/-- The onlooker has been told. -/
theorem ML.told {w w' : World} {B mb t k : Nat} {ν : Net} {τ : TSt} {σ : Sg} {T : TS} {V : Value} {l : List EvS} {V' : Value} {l' : List EvS} (h : ML w B mb t k ν τ σ T V l) (t1 : TrAt w' T.C T.R T.F T.N T.b V' l') (tw : TrW T.C T.R T.F V V' w w') : ML w' B mb t k ν τ σ T V' l' ∧ LF B mb T V V' w w' := by
  obtain ⟨⟨d1, d2, d3⟩, ⟨d4, d5, d6⟩, ⟨d7, d8, d9⟩, d10, d11, d12⟩ := h.d
  have hz := h.sz
  have hB := h.blt
  have hm := h.mlt
  have keep : ∀ q, q < T.b → q ≠ T.C → q ≠ T.R → q ≠ T.F → w'.heap[q]? = w.heap[q]? := fun q h1 h2 h3 h4 => tw.block q (by omega) h2 h3 h4 (fun e => by have := (h.tr.own.lt q e).1; omega)
  have eB := keep B d10 (fun e => d1 e.symm) (fun e => d2 e.symm) (fun e => d3 e.symm)
  have em := keep mb d11 (fun e => d4 e.symm) (fun e => d5 e.symm) (fun e => d6 e.symm)
  refine ⟨⟨h.m.blocks (fun q hq => ?_), (World.cell?_of_block (a := ⟨B, 6752, none⟩) eB).trans h.s, t1, h.d, Nat.le_trans hz tw.size⟩, ⟨tw.os, tw.tape, tw.output, tw.size, fun q h1 _ _ h4 h5 h6 h7 => tw.block q h1 h4 h5 h6 h7, tw.row⟩⟩
  by_cases z : q = B
  · subst z
    unfold blk0
    simp only [World.setCell, Array.getElem?_modify]
    rw [if_pos trivial, if_pos trivial, eB]
  · unfold blk0
    rw [far_set z, far_set z]
    rcases hq with q2 | q2 | q2
    · exact keep q (by omega) (by omega) (by omega) (by omega)
    · exact absurd q2 z
    · rw [q2]; exact em
theorem ML.other {w : World} {B mb t k : Nat} {ν : Net} {τ : TSt} {σ : Sg} {T : TS} {V : Value} {l : List EvS} (h : ML w B mb t k ν τ σ T V l) {q o : Nat} {v : Value} (hq : q ≠ B ∧ q ≠ mb ∧ 2 < q ∧ q ≠ T.C ∧ q ≠ T.R ∧ q ≠ T.F ∧ V.ownBlock ≠ some q) : ML (w.setCell ⟨q, o, none⟩ v) B mb t k ν τ σ T V l := by
  refine ⟨h.m.blocks (fun p hp => ?_), ?_, h.tr.keep (fun p hp => far_set (fun e => ?_)), h.d, by simpa using h.sz⟩
  · by_cases z : p = B
    · subst z
      unfold blk0
      simp only [World.setCell, Array.getElem?_modify]
      rw [if_pos trivial, if_pos trivial, if_neg hq.1]
    · unfold blk0
      rw [far_set z, far_set z]
      exact far_set (by omega)
  · rw [World.cell?_setCell_far _ _ _ _ hq.1]; exact h.s
  · subst e
    rcases hp with z | z | z | z
    · exact hq.2.2.2.1 z
    · exact hq.2.2.2.2.1 z
    · exact hq.2.2.2.2.2.1 z
    · exact hq.2.2.2.2.2.2 z
end Go.Proofs.Qxb6500877aGreatDoor
