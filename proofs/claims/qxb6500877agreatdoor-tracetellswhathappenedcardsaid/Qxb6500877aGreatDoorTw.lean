import Derived.Deep.CutBlock
import Derived.OwnWalk
import Derived.Maps.AppendAt
import Derived.Test.Qxb6500877aGreatDoorTr7
set_option linter.unusedVariables false
set_option linter.unusedSimpArgs false
namespace Go.Proofs.Qxb6500877aGreatDoor
open Go.RowKit

abbrev PMach := @Mach
theorem blk_mut (w : World) (B : Nat) : Mut B 6752 6753 w (blk0 w B) :=
  ⟨rfl, rfl, rfl, by simp [blk0], fun k _ hk => far_set hk, fun o => World.frozen?_setCell _ _ _ _, fun o ho => World.cell?_setCell_other _ _ _ _ (by simp <;> omega)⟩
theorem far_adr {w : World} {q : Addr} {v : Value} {p : Nat} (h : p ≠ q.block) : (w.setCell q v).heap[p]? = w.heap[p]? := by
  simp only [World.setCell, Array.getElem?_modify]
  rw [if_neg (fun e => h e.symm)]
theorem ML.oth {w : World} {B mb t k : Nat} {ν : Net} {τ : TSt} {σ : Sg} {T : TS} {V : Value} {l : List EvS} (h : ML w B mb t k ν τ σ T V l) {q : Addr} {v : Value} (hq : q.block ≠ B ∧ q.block ≠ mb ∧ 2 < q.block ∧ q.block ≠ T.C ∧ q.block ≠ T.R ∧ q.block ≠ T.F ∧ V.ownBlock ≠ some q.block) : ML (w.setCell q v) B mb t k ν τ σ T V l := by
  refine ⟨h.m.blocks (fun p hp => ?_), ?_, h.tr.keep (fun p hp => far_adr (fun e => ?_)), h.d, by simpa using h.sz⟩
  · by_cases z : p = B
    · subst z
      unfold blk0
      simp only [World.setCell, Array.getElem?_modify]
      rw [if_pos trivial, if_pos trivial, if_neg hq.1]
    · unfold blk0
      rw [far_set z, far_set z]
      exact far_adr (by omega)
  · rw [World.cell?_setCell_far _ _ _ _ hq.1]; exact h.s
  · subst e
    rcases hp with z | z | z | z
    · exact hq.2.2.2.1 z
    · exact hq.2.2.2.2.1 z
    · exact hq.2.2.2.2.2.1 z
    · exact hq.2.2.2.2.2.2 z
namespace W
/-- The onlooker: where it lies, and what it has been told. -/
structure LS where
  T : TS
  V : Value
  l : List EvS
structure Mach (w : World) (B mb t k : Nat) (ν : Net) (τ : TSt) (σ : Sg) (L : LS) : Prop where
  h : ML w B mb t k ν τ σ L.T L.V L.l
/-- A block that the onlooker does not use. -/
structure Far (L : LS) (q : Nat) : Prop where
  c : q ≠ L.T.C
  r : q ≠ L.T.R
  f : q ≠ L.T.F
  v : L.V.ownBlock ≠ some q
/-- What may have been written: the machine, its map, the onlooker, and all blocks from base on. -/
structure Fr (base B mb : Nat) (L L' : LS) (w w' : World) : Prop where
  os : w'.os = w.os
  tape : w'.tape = w.tape
  output : w'.output = w.output
  size : w.heap.size ≤ w'.heap.size
  block : ∀ q, q < base → q ≠ B → q ≠ mb → Far L q → w'.heap[q]? = w.heap[q]?
  row : ∀ q, q < base → Far L q → Far L' q
  e : L'.T = L.T
theorem Fr.refl (base B mb : Nat) (L : LS) (w : World) : Fr base B mb L L w w := ⟨rfl, rfl, rfl, Nat.le_refl _, fun _ _ _ _ _ => rfl, fun _ _ h => h, rfl⟩
theorem Fr.trans {base base' B mb : Nat} {L L1 L2 : LS} {w w1 w2 : World} (h : Fr base B mb L L1 w w1) (g : Fr base' B mb L1 L2 w1 w2) (hb : base ≤ base') : Fr base B mb L L2 w w2 :=
  ⟨g.os.trans h.os, g.tape.trans h.tape, g.output.trans h.output, Nat.le_trans h.size g.size, fun q h1 h2 h3 h4 => (g.block q (by omega) h2 h3 (h.row q h1 h4)).trans (h.block q h1 h2 h3 h4), fun q h1 h2 => g.row q (by omega) (h.row q h1 h2), g.e.trans h.e⟩
theorem Fr.of_mut3 {B mb lo hi base : Nat} {L : LS} {w w' : World} (M : Mut3 B lo hi mb base w w') : Fr base B mb L L w w' :=
  ⟨M.os, M.tape, M.output, M.size, fun q h1 h2 h3 _ => M.block q h1 h2 h3, fun _ _ h => h, rfl⟩
theorem Fr.of_lf {B mb : Nat} {T : TS} {V V' : Value} {l l' : List EvS} {w w' : World} (h : LF B mb T V V' w w') : Fr w.heap.size B mb ⟨T, V, l⟩ ⟨T, V', l'⟩ w w' := by
  refine ⟨h.os, h.tape, h.output, h.size, fun q h1 h2 h3 h4 => h.block q h1 h2 h3 h4.c h4.r h4.f h4.v, fun q h1 h4 => ⟨h4.c, h4.r, h4.f, ?_⟩, rfl⟩
  rcases h.row with z | ⟨p, z1, z2⟩
  · rw [z]; exact h4.v
  · intro e
    have : p = q := Option.some.inj (z1.symm.trans e)
    omega
theorem Fr.wide {base base' B mb : Nat} {L L' : LS} {w w' : World} (h : Fr base B mb L L' w w') (hb : base' ≤ base) : Fr base' B mb L L' w w' :=
  ⟨h.os, h.tape, h.output, h.size, fun q h1 => h.block q (by omega), fun q h1 => h.row q (by omega), h.e⟩
theorem Mach.clk {w : World} {B mb t k : Nat} {ν : Net} {τ : TSt} {σ : Sg} {L : LS} (h : Mach w B mb t k ν τ σ L) : w.cell? ⟨B, 0, none⟩ = some (.int .u64 (t : Int)) := h.h.clk
theorem Mach.tlt {w : World} {B mb t k : Nat} {ν : Net} {τ : TSt} {σ : Sg} {L : LS} (h : Mach w B mb t k ν τ σ L) : t < 18446744073709551616 := h.h.m.tlt
theorem Mach.lt {w : World} {B mb t k : Nat} {ν : Net} {τ : TSt} {σ : Sg} {L : LS} (h : Mach w B mb t k ν τ σ L) : B < w.heap.size := h.h.blt
theorem Mach.mlt {w : World} {B mb t k : Nat} {ν : Net} {τ : TSt} {σ : Sg} {L : LS} (h : Mach w B mb t k ν τ σ L) : mb < w.heap.size := h.h.mlt
theorem Mach.ne {w : World} {B mb t k : Nat} {ν : Net} {τ : TSt} {σ : Sg} {L : LS} (h : Mach w B mb t k ν τ σ L) : mb ≠ B := h.h.m.ne
theorem Mach.hB {w : World} {B mb t k : Nat} {ν : Net} {τ : TSt} {σ : Sg} {L : LS} (h : Mach w B mb t k ν τ σ L) : 2 < B := h.h.m.hB
theorem Mach.hm {w : World} {B mb t k : Nat} {ν : Net} {τ : TSt} {σ : Sg} {L : LS} (h : Mach w B mb t k ν τ σ L) : 2 < mb := h.h.m.hm
theorem Mach.frz {w : World} {B mb t k : Nat} {ν : Net} {τ : TSt} {σ : Sg} {L : LS} (h : Mach w B mb t k ν τ σ L) : ∀ o, w.frozen? ⟨B, o, none⟩ = false := h.h.frz
theorem Mach.sch {w : World} {B mb t k : Nat} {ν : Net} {τ : TSt} {σ : Sg} {L : LS} (h : Mach w B mb t k ν τ σ L) : SchedAt w B σ.s ∧ SOk σ.s := h.h.sch
theorem Mach.net {w : World} {B mb t k : Nat} {ν : Net} {τ : TSt} {σ : Sg} {L : LS} (h : Mach w B mb t k ν τ σ L) : NetAt w B ν ∧ NOk ν k := h.h.net
theorem Mach.tim {w : World} {B mb t k : Nat} {ν : Net} {τ : TSt} {σ : Sg} {L : LS} (h : Mach w B mb t k ν τ σ L) : ∃ s L fr f, TimersAt w B k s f ∧ WInv s L fr f [] ∧ s.now = t ∧ s.mb = mb ∧ TW s L fr f τ k := h.h.tim
theorem Mach.sts {w : World} {B mb t k : Nat} {ν : Net} {τ : TSt} {σ : Sg} {L : LS} (h : Mach w B mb t k ν τ σ L) (j : Nat) (hj : j < 28) : w.cell? ⟨B, 6724 + j, none⟩ = some (.int .u64 (σ.st j)) := h.h.sts hj
theorem Mach.vac {w : World} {B mb t k : Nat} {ν : Net} {τ : TSt} {σ : Sg} {L : LS} (h : Mach w B mb t k ν τ σ L) : Vac w := h.h.m.vac.mut (mut_blk w B) (by have := h.h.m.hB; omega)
theorem Mach.tab {w : World} {B mb t k : Nat} {ν : Net} {τ : TSt} {σ : Sg} {L : LS} (h : Mach w B mb t k ν τ σ L) : TabAt w := h.h.m.tab.mut (mut_blk w B) h.h.m.hB
theorem Mach.mono {w : World} {B mb t k : Nat} {ν : Net} {τ : TSt} {σ : Sg} {L : LS} {k' : Nat} (h : Mach w B mb t k ν τ σ L) (hk : k ≤ k') : Mach w B mb t k' ν τ σ L := ⟨h.h.mono hk⟩
theorem Mach.below {w : World} {B mb t k : Nat} {ν : Net} {τ : TSt} {σ : Sg} {L : LS} {w' : World} (h : Mach w B mb t k ν τ σ L) (hb : Below w.heap.size w w') : Mach w' B mb t k ν τ σ L := ⟨h.h.below hb⟩
theorem Mach.drew {w : World} {B mb t k : Nat} {ν : Net} {τ : TSt} {σ : Sg} {L : LS} (h : Mach w B mb t k ν τ σ L) : Mach w.drew B mb t k ν τ σ L := ⟨h.h.drew⟩
theorem Mach.far {w : World} {B mb t k : Nat} {ν : Net} {τ : TSt} {σ : Sg} {L : LS} {q : Nat} (h : Mach w B mb t k ν τ σ L) (hq : w.heap.size ≤ q) : Far L q := by
  obtain ⟨_, _, _, d10, d11, d12⟩ := h.h.d
  obtain ⟨l1, l2, l3, _, _⟩ := h.h.tr.lt
  have hz := h.h.sz
  exact ⟨by omega, by omega, by omega, fun e => by have := (h.h.tr.own.lt q e).2; omega⟩
theorem Mach.fresh {w : World} {B mb t k : Nat} {ν : Net} {τ : TSt} {σ : Sg} {L : LS} (h : Mach w B mb t k ν τ σ L) (q : Addr) (hq : q.block ≠ B ∧ q.block ≠ mb ∧ 2 < q.block) (hf : Far L q.block) (v : Value) : Mach (w.setCell q v) B mb t k ν τ σ L := ⟨h.h.oth ⟨hq.1, hq.2.1, hq.2.2, hf.c, hf.r, hf.f, hf.v⟩⟩
theorem Mach.lift3 {w w' : World} {B mb t k t' k' : Nat} {ν ν' : Net} {τ τ' : TSt} {σ σ' : Sg} {L : LS} {lo hi base : Nat} (h : Mach w B mb t k ν τ σ L) (M : Mut3 B lo hi mb base w w') (hb : w.heap.size ≤ base) (hi_ : hi ≤ 6752) (m' : PMach (blk0 w' B) B mb t' k' ν' τ' σ') : Mach w' B mb t' k' ν' τ' σ' L :=
  ⟨(h.h.turn3 ⟨M.os, M.tape, M.output, M.size, fun q hq => M.block q (by omega), M.frz, M.cell⟩ hi_ m').1⟩
theorem Mach.lift {w w' : World} {B mb t k t' k' : Nat} {ν ν' : Net} {τ τ' : TSt} {σ σ' : Sg} {L : LS} {lo hi : Nat} (h : Mach w B mb t k ν τ σ L) (M : Mut B lo hi w w') (hi_ : hi ≤ 6752) (m' : PMach (blk0 w' B) B mb t' k' ν' τ' σ') : Mach w' B mb t' k' ν' τ' σ' L := ⟨(h.h.turn M hi_ m').1⟩
theorem Mach.stat {w : World} {B mb t k : Nat} {ν : Net} {τ : TSt} {σ : Sg} {L : LS} {j : Nat} (h : Mach w B mb t k ν τ σ L) (hj : j < 28) : Mach (w.setCell ⟨B, 6724 + j, none⟩ (.int .u64 (inc64 (σ.st j)))) B mb t k ν τ (σ.inc j) L := by
  have M : Mut B 6724 6752 w (w.setCell ⟨B, 6724 + j, none⟩ (.int .u64 (inc64 (σ.st j)))) := (Mut.refl B 6724 6752 w).setCell (by omega) (by omega) _
  refine h.lift M (by omega) (h.h.m.turn (M.blank (by omega) ⟨_, h.h.s⟩) (by omega) (by omega) (.inl (by omega)) (.inl ⟨by omega, rfl⟩) (.inl ⟨by omega, rfl⟩) (.inr ⟨fun i hi => ?_, fun i => ?_⟩))
  · rw [blk_cell (by omega)]
    by_cases e : i = j
    · subst e
      have : (σ.inc i).st i = inc64 (σ.st i) := by simp [Sg.inc]
      rw [this]
      exact World.cell?_setCell_same _ _ _ (h.sts i hi)
    · have : (σ.inc j).st i = σ.st i := by simp [Sg.inc, e]
      rw [this, World.cell?_setCell_other _ _ _ _ (by simp <;> omega)]
      exact h.sts i hi
  · show 0 ≤ (if i = j then inc64 (σ.st j) else σ.st i) ∧ (if i = j then inc64 (σ.st j) else σ.st i) < _
    split
    · exact inc64_rng _
    · exact h.h.m.stb i
theorem Mach.sched {w w' : World} {B mb t k : Nat} {ν : Net} {τ : TSt} {σ : Sg} {L : LS} {s : Sched} (h : Mach w B mb t k ν τ σ L) (M : Mut B 6596 6724 w w') (hs : SchedAt w' B s ∧ SOk s) : Mach w' B mb t k ν τ (σ.put s) L :=
  h.lift M (by omega) (h.h.m.sched (M.blank (by omega) ⟨_, h.h.s⟩) ⟨hs.1.mut (blk_mut w' B) (by omega), hs.2⟩)
theorem Mach.nets {w w' : World} {B mb t k : Nat} {ν : Net} {τ : TSt} {σ : Sg} {ν' : Net} {L : LS} (h : Mach w B mb t k ν τ σ L) (M : Mut B 1939 6596 w w') (hn : NetAt w' B ν' ∧ NOk ν' k) : Mach w' B mb t k ν' τ σ L :=
  h.lift M (by omega) (h.h.m.nets (M.blank (by omega) ⟨_, h.h.s⟩) ⟨hn.1.mut (blk_mut w' B) (by omega), hn.2⟩)
theorem Mach.wheel3 {w w' : World} {B mb t k : Nat} {ν : Net} {τ : TSt} {σ : Sg} {τ' : TSt} {L : LS} {base lo : Nat} (h : Mach w B mb t k ν τ σ L) (M : Mut3 B lo 1939 mb base w w') (hlo : 1 ≤ lo) (hb : w.heap.size ≤ base) (ht : ∃ s L fr f, TimersAt w' B k s f ∧ WInv s L fr f [] ∧ s.now = t ∧ s.mb = mb ∧ TW s L fr f τ' k) : Mach w' B mb t k ν τ' σ L := by
  obtain ⟨s, L, fr, f, T1, r⟩ := ht
  have h1 := h.lt
  have h2 := h.hB
  exact h.lift3 M hb (by omega) (h.h.m.wheel3 (M.blank (by omega) ⟨_, h.h.s⟩ h.ne) hlo (by omega) (by omega) ⟨s, L, fr, f, T1.mut (blk_mut w' B) (by omega), r⟩)
theorem Mach.tick {w : World} {B mb t k t' : Nat} {ν : Net} {τ τ' : TSt} {σ : Sg} {L : LS} (h : Mach w B mb t k ν τ σ L) (ht : t' < 18446744073709551616) (hc : ∃ s L fr f, TimersAt w B k s f ∧ WInv s L fr f [] ∧ s.now = t' ∧ s.mb = mb ∧ TW s L fr f τ' k) (e : w.cell? ⟨B, 0, none⟩ = some (.int .u64 (t' : Int))) : Mach w B mb t' k ν τ' σ L := by
  obtain ⟨s, Lw, fr, f, T1, r⟩ := hc
  exact h.lift (Mut.refl B 0 0 w) (by omega) (h.h.m.tick ht ⟨s, Lw, fr, f, T1.mut (blk_mut w B) (by omega), r⟩ (by rw [blk_cell (by omega)]; exact e))
theorem Mach.cnt0 {w : World} {B mb t k : Nat} {ν : Net} {τ : TSt} {σ : Sg} {L : LS} {c : Nat} (h : Mach w B mb t k ν τ σ L) (hc : c < 4) : ∃ v, Hid (σ.st (c * 7) = v) ∧ w.cell? ⟨B, 6724 + c * 7, none⟩ = some (.int .u64 v) := ⟨_, hideIt rfl, h.sts (c * 7) (by omega)⟩
theorem Mach.cntf {w : World} {B mb t k : Nat} {ν : Net} {τ : TSt} {σ : Sg} {L : LS} {c f : Nat} (h : Mach w B mb t k ν τ σ L) (hc : c < 4) (hf : f < 7) : ∃ v, Hid (σ.st (c * 7 + f) = v) ∧ w.cell? ⟨B, 6724 + c * 7 + f, none⟩ = some (.int .u64 v) :=
  ⟨_, hideIt rfl, by rw [Nat.add_assoc]; exact h.sts (c * 7 + f) (by omega)⟩
/-- What a step leaves. -/
structure Done (w w' : World) (B mb t k : Nat) (ν : Net) (τ : TSt) (σ : Sg) (L L' : LS) : Prop where
  m : Mach w' B mb t k ν τ σ L'
  f : Fr w.heap.size B mb L L' w w'
theorem Done.refl {w : World} {B mb t k : Nat} {ν : Net} {τ : TSt} {σ : Sg} {L : LS} (h : Mach w B mb t k ν τ σ L) : Done w w B mb t k ν τ σ L L := ⟨h, Fr.refl _ _ _ _ _⟩
theorem Done.mut {w w1 w2 : World} {B mb t k t' k' : Nat} {ν ν' : Net} {τ τ' : TSt} {σ σ' : Sg} {L L1 : LS} {lo hi : Nat} (h : Done w w1 B mb t k ν τ σ L L1) (M : Mut B lo hi w1 w2) (hi_ : hi ≤ 6752) (m : Mach w2 B mb t' k' ν' τ' σ' L1) : Done w w2 B mb t' k' ν' τ' σ' L L1 :=
  ⟨m, h.f.trans (Fr.of_mut3 (M.to3 (m := mb) (Nat.le_refl _))) h.f.size⟩
theorem Done.mut2 {w w1 w2 : World} {B mb t k t' k' : Nat} {ν ν' : Net} {τ τ' : TSt} {σ σ' : Sg} {L L1 : LS} {lo hi : Nat} (h : Done w w1 B mb t k ν τ σ L L1) (M : Mut2 B lo hi mb w1 w2) (hi_ : hi ≤ 6752) (m : Mach w2 B mb t' k' ν' τ' σ' L1) : Done w w2 B mb t' k' ν' τ' σ' L L1 :=
  ⟨m, h.f.trans (Fr.of_mut3 (M.to3 (Nat.le_refl _))) h.f.size⟩
theorem Done.mut3 {w w1 w2 : World} {B mb t k t' k' : Nat} {ν ν' : Net} {τ τ' : TSt} {σ σ' : Sg} {L L1 : LS} {lo hi base : Nat} (h : Done w w1 B mb t k ν τ σ L L1) (M : Mut3 B lo hi mb base w1 w2) (hb : w.heap.size ≤ base) (hi_ : hi ≤ 6752) (m : Mach w2 B mb t' k' ν' τ' σ' L1) : Done w w2 B mb t' k' ν' τ' σ' L L1 :=
  ⟨m, h.f.trans (Fr.of_mut3 M) hb⟩
theorem Done.trans {w w1 w2 : World} {B mb t k t' k' : Nat} {ν ν' : Net} {τ τ' : TSt} {σ σ' : Sg} {L L1 L2 : LS} (h : Done w w1 B mb t k ν τ σ L L1) (h2 : Done w1 w2 B mb t' k' ν' τ' σ' L1 L2) : Done w w2 B mb t' k' ν' τ' σ' L L2 := ⟨h2.m, h.f.trans h2.f h.f.size⟩
theorem Done.mono {w w1 : World} {B mb t k : Nat} {ν : Net} {τ : TSt} {σ : Sg} {k' : Nat} {L L1 : LS} (h : Done w w1 B mb t k ν τ σ L L1) (hk : k ≤ k') : Done w w1 B mb t k' ν τ σ L L1 := ⟨h.m.mono hk, h.f⟩
theorem Done.below {w w1 w2 : World} {B mb t k : Nat} {ν : Net} {τ : TSt} {σ : Sg} {L L1 : LS} (h : Done w w1 B mb t k ν τ σ L L1) (hb : Below w1.heap.size w1 w2) : Done w w2 B mb t k ν τ σ L L1 := h.mut (Mut.of_below (lo := 0) (hi := 0) hb h.m.lt) (by omega) (h.m.below hb)
theorem Done.drew {w w1 : World} {B mb t k : Nat} {ν : Net} {τ : TSt} {σ : Sg} {L L1 : LS} (h : Done w w1 B mb t k ν τ σ L L1) : Done w w1.drew B mb t k ν τ σ L L1 := h.below (below_dr (Below.refl _ _))
theorem Done.stat {w w1 : World} {B mb t k : Nat} {ν : Net} {τ : TSt} {σ : Sg} {j : Nat} {L L1 : LS} (h : Done w w1 B mb t k ν τ σ L L1) (hj : j < 28) : Done w (w1.setCell ⟨B, 6724 + j, none⟩ (.int .u64 (inc64 (σ.st j)))) B mb t k ν τ (σ.inc j) L L1 :=
  h.mut ((Mut.refl B 6724 6752 w1).setCell (by omega) (by omega) _) (by omega) (h.m.stat hj)
theorem Done.stat0 {w w1 : World} {B mb t k : Nat} {ν : Net} {τ : TSt} {σ : Sg} {c : Nat} {L L1 : LS} {v : Int} (h : Done w w1 B mb t k ν τ σ L L1) (hc : c < 4) (hv : Hid (σ.st (c * 7) = v)) : Done w (w1.setCell ⟨B, 6724 + c * 7, none⟩ (.int .u64 (IntKind.u64.wrap (v + 1)))) B mb t k ν τ (σ.inc (c * 7)) L L1 := by
  rw [← hv.out]
  exact h.stat (j := c * 7) (by omega)
theorem Done.statf {w w1 : World} {B mb t k : Nat} {ν : Net} {τ : TSt} {σ : Sg} {c f : Nat} {L L1 : LS} {v : Int} (h : Done w w1 B mb t k ν τ σ L L1) (hc : c < 4) (hf : f < 7) (hv : Hid (σ.st (c * 7 + f) = v)) : Done w (w1.setCell ⟨B, 6724 + c * 7 + f, none⟩ (.int .u64 (IntKind.u64.wrap (v + 1)))) B mb t k ν τ (σ.inc (c * 7 + f)) L L1 := by
  rw [← hv.out, Nat.add_assoc]
  exact h.stat (j := c * 7 + f) (by omega)
theorem Fr.fresh {base B mb : Nat} {L L1 : LS} {w w1 : World} (h : Fr base B mb L L1 w w1) (q : Addr) (hw : base ≤ q.block) (v : Value) : Fr base B mb L L1 w (w1.setCell q v) :=
  ⟨h.os, h.tape, h.output, by simpa using h.size, fun p h1 h2 h3 h4 => (far_adr (by omega)).trans (h.block p h1 h2 h3 h4), h.row, h.e⟩
theorem Done.fresh {w w1 : World} {B mb t k : Nat} {ν : Net} {τ : TSt} {σ : Sg} {L L1 : LS} (h : Done w w1 B mb t k ν τ σ L L1) (q : Addr) (hw : w.heap.size ≤ q.block) (hB : B < w.heap.size) (hm : mb < w.heap.size) (hf : Far L1 q.block) (v : Value) : Done w (w1.setCell q v) B mb t k ν τ σ L L1 :=
  ⟨h.m.fresh q ⟨by omega, by omega, by have := h.m.hB; omega⟩ hf v, h.f.fresh q hw v⟩
/-- As 'Done', from a block 'base' on all may have been written. -/
structure Near (base : Nat) (w w' : World) (B mb t k : Nat) (ν : Net) (τ : TSt) (σ : Sg) (L L' : LS) : Prop where
  m : Mach w' B mb t k ν τ σ L'
  f : Fr base B mb L L' w w'
theorem Near.refl {base : Nat} {w : World} {B mb t k : Nat} {ν : Net} {τ : TSt} {σ : Sg} {L : LS} (h : Mach w B mb t k ν τ σ L) : Near base w w B mb t k ν τ σ L L := ⟨h, Fr.refl _ _ _ _ _⟩
theorem Near.done {base : Nat} {w w1 w2 : World} {B mb t k t' k' : Nat} {ν ν' : Net} {τ τ' : TSt} {σ σ' : Sg} {L L1 L2 : LS} (h : Near base w w1 B mb t k ν τ σ L L1) (d : Done w1 w2 B mb t' k' ν' τ' σ' L1 L2) (hb : base ≤ w.heap.size) : Near base w w2 B mb t' k' ν' τ' σ' L L2 := ⟨d.m, h.f.trans d.f (Nat.le_trans hb h.f.size)⟩
theorem Near.trans {base : Nat} {w w1 w2 : World} {B mb t k t' k' : Nat} {ν ν' : Net} {τ τ' : TSt} {σ σ' : Sg} {L L1 L2 : LS} (h : Near base w w1 B mb t k ν τ σ L L1) (d : Near base w1 w2 B mb t' k' ν' τ' σ' L1 L2) : Near base w w2 B mb t' k' ν' τ' σ' L L2 := ⟨d.m, h.f.trans d.f (Nat.le_refl _)⟩
theorem Near.mono {base : Nat} {w w1 : World} {B mb t k : Nat} {ν : Net} {τ : TSt} {σ : Sg} {k' : Nat} {L L1 : LS} (h : Near base w w1 B mb t k ν τ σ L L1) (hk : k ≤ k') : Near base w w1 B mb t k' ν τ σ L L1 := ⟨h.m.mono hk, h.f⟩
theorem Near.below {base : Nat} {w w1 w2 : World} {B mb t k : Nat} {ν : Net} {τ : TSt} {σ : Sg} {L L1 : LS} (h : Near base w w1 B mb t k ν τ σ L L1) (hb : Below w1.heap.size w1 w2) (hw : base ≤ w.heap.size) : Near base w w2 B mb t k ν τ σ L L1 := h.done ((Done.refl h.m).below hb) hw
theorem Near.drew {base : Nat} {w w1 : World} {B mb t k : Nat} {ν : Net} {τ : TSt} {σ : Sg} {L L1 : LS} (h : Near base w w1 B mb t k ν τ σ L L1) : Near base w w1.drew B mb t k ν τ σ L L1 := ⟨h.m.drew, ⟨h.f.os, h.f.tape, h.f.output, h.f.size, h.f.block, h.f.row, h.f.e⟩⟩
theorem Near.fresh {base : Nat} {w w1 : World} {B mb t k : Nat} {ν : Net} {τ : TSt} {σ : Sg} {L L1 : LS} (h : Near base w w1 B mb t k ν τ σ L L1) (q : Addr) (hq : base ≤ q.block) (hB : B < base) (hm : mb < base) (hf : Far L1 q.block) (v : Value) : Near base w (w1.setCell q v) B mb t k ν τ σ L L1 :=
  ⟨h.m.fresh q ⟨by omega, by omega, by have := h.m.hB; omega⟩ hf v, h.f.fresh q hq v⟩
theorem Near.to_done {w w1 : World} {B mb t k : Nat} {ν : Net} {τ : TSt} {σ : Sg} {L L1 : LS} (h : Near w.heap.size w w1 B mb t k ν τ σ L L1) : Done w w1 B mb t k ν τ σ L L1 := ⟨h.m, h.f⟩
theorem Done.to_near {base : Nat} {w w1 : World} {B mb t k : Nat} {ν : Net} {τ : TSt} {σ : Sg} {L L1 : LS} (h : Done w w1 B mb t k ν τ σ L L1) (hb : base ≤ w.heap.size) : Near base w w1 B mb t k ν τ σ L L1 := ⟨h.m, h.f.wide hb⟩
theorem refuse_any {w : World} {B mb t k : Nat} {ν : Net} {τ : TSt} {σ : Sg} {L : LS} {c : Int} (M : Mach w B mb t k ν τ σ L) (hl : L.l.length < 1000000000) : Calls Tryz.prog 128 #[.pointer (some ⟨B, 0, none⟩), .int .i64 c] w fun e w' => e = .returned (.int .i64 c) ∧ ∃ L', Done w w' B mb t k ν τ σ L L' ∧ L'.l = L.l ++ [evR t c] := by
  refine (refuse_l M.h hl c).mono ?_
  rintro e w' ⟨he, V', H', F'⟩
  exact ⟨he, ⟨L.T, V', L.l ++ [evR t c]⟩, ⟨⟨H'⟩, Fr.of_lf F'⟩, rfl⟩
theorem noteTask_p {w : World} {B mb t k : Nat} {ν : Net} {τ : TSt} {σ : Sg} {L : LS} {kk : Nat} {c x : Int} (M : Mach w B mb t k ν τ σ L) (hl : L.l.length < 1000000000) (hkk : kk < 9) : Calls Tryz.prog 130 #[.pointer (some ⟨B, 0, none⟩), .int .u8 (kk : Int), .int .i64 c, .int .i64 x] w fun e w' => e = .returned (.tuple #[]) ∧ ∃ L', Done w w' B mb t k ν τ σ L L' ∧ L'.l = L.l ++ [evT t kk c x 0] := by
  refine (Go.Proofs.Qxb6500877aGreatDoor.noteTask_p M.h hl hkk).mono ?_
  rintro e w' ⟨he, V', H', F'⟩
  exact ⟨he, ⟨L.T, V', L.l ++ [evT t kk c x 0]⟩, ⟨⟨H'⟩, Fr.of_lf F'⟩, rfl⟩
theorem noteTask_any {w : World} {B mb t k : Nat} {ν : Net} {τ : TSt} {σ : Sg} {L : LS} {x : Nat} {c : Int} (M : Mach w B mb t k ν τ σ L) (hl : L.l.length < 1000000000) (hx : x < 16) : Calls Tryz.prog 130 #[.pointer (some ⟨B, 0, none⟩), .int .u8 9, .int .i64 c, .int .i64 (x : Int)] w fun e w' => e = .returned (.tuple #[]) ∧ ∃ L', Done w w' B mb t k ν τ σ L L' ∧ L'.l = L.l ++ [evT t 9 c x (σ.s.tk x).st] := by
  refine (noteTask_t M.h hl hx).mono ?_
  rintro e w' ⟨he, V', H', F'⟩
  exact ⟨he, ⟨L.T, V', L.l ++ [evT t 9 c x (σ.s.tk x).st]⟩, ⟨⟨H'⟩, Fr.of_lf F'⟩, rfl⟩
theorem noteTimer_any {w : World} {B mb t k : Nat} {ν : Net} {τ : TSt} {σ : Sg} {L : LS} {kd : Nat} {a c id : Int} {q o : Nat} (M : Mach w B mb t k ν τ σ L) (hl : L.l.length < 1000000000) (hkd : kd < 11) (q0 : w.cell? ⟨q, o, none⟩ = some (.int .u64 id)) (q1 : w.cell? ⟨q, o + 1, none⟩ = some (.int .i64 c)) : Calls Tryz.prog 105 #[.pointer (some ⟨B, 0, none⟩), .int .u8 (kd : Int), .pointer (some ⟨q, o, none⟩), .int .u64 (a : Int)] w fun e w' => e = .returned (.tuple #[]) ∧ ∃ L', Done w w' B mb t k ν τ σ L L' ∧ L'.l = L.l ++ [evM t kd a c id] := by
  refine (noteTimer_l M.h hl hkd q0 q1).mono ?_
  rintro e w' ⟨he, V', H', F'⟩
  exact ⟨he, ⟨L.T, V', L.l ++ [evM t kd a c id]⟩, ⟨⟨H'⟩, Fr.of_lf F'⟩, rfl⟩
theorem noteMsg_s {w : World} {B mb t k : Nat} {ν : Net} {τ : TSt} {σ : Sg} {L : LS} {m : MsgV} {q : Nat} (M : Mach w B mb t k ν τ σ L) (hl : L.l.length < 1000000000) (q0 : w.cell? ⟨q, 0, none⟩ = some (.int .i64 m.mf)) (q1 : w.cell? ⟨q, 1, none⟩ = some (.int .i64 m.mt)) (q3 : w.cell? ⟨q, 3, none⟩ = some (.int .u64 m.mq)) : Calls Tryz.prog 133 #[.pointer (some ⟨B, 0, none⟩), .int .u8 2, .pointer (some ⟨q, 0, none⟩)] w fun e w' => e = .returned (.tuple #[]) ∧ ∃ L', Done w w' B mb t k ν τ σ L L' ∧ L'.l = L.l ++ [evX t 2 m m.mf] := by
  refine (Go.Proofs.Qxb6500877aGreatDoor.noteMsg_s M.h hl q0 q1 q3).mono ?_
  rintro e w' ⟨he, V', H', F'⟩
  exact ⟨he, ⟨L.T, V', L.l ++ [evX t 2 m m.mf]⟩, ⟨⟨H'⟩, Fr.of_lf F'⟩, rfl⟩
theorem noteMsg_d {w : World} {B mb t k : Nat} {ν : Net} {τ : TSt} {σ : Sg} {L : LS} {m : MsgV} {q : Nat} (M : Mach w B mb t k ν τ σ L) (hl : L.l.length < 1000000000) (q0 : w.cell? ⟨q, 0, none⟩ = some (.int .i64 m.mf)) (q1 : w.cell? ⟨q, 1, none⟩ = some (.int .i64 m.mt)) (q3 : w.cell? ⟨q, 3, none⟩ = some (.int .u64 m.mq)) : Calls Tryz.prog 133 #[.pointer (some ⟨B, 0, none⟩), .int .u8 3, .pointer (some ⟨q, 0, none⟩)] w fun e w' => e = .returned (.tuple #[]) ∧ ∃ L', Done w w' B mb t k ν τ σ L L' ∧ L'.l = L.l ++ [evX t 3 m m.mt] := by
  refine (Go.Proofs.Qxb6500877aGreatDoor.noteMsg_d M.h hl q0 q1 q3).mono ?_
  rintro e w' ⟨he, V', H', F'⟩
  exact ⟨he, ⟨L.T, V', L.l ++ [evX t 3 m m.mt]⟩, ⟨⟨H'⟩, Fr.of_lf F'⟩, rfl⟩
theorem noteClock_any {w : World} {B mb t k : Nat} {ν : Net} {τ : TSt} {σ : Sg} {L : LS} (M : Mach w B mb t k ν τ σ L) (hl : L.l.length < 1000000000) : Calls Tryz.prog 104 #[.pointer (some ⟨B, 0, none⟩)] w fun e w' => e = .returned (.tuple #[]) ∧ ∃ L', Done w w' B mb t k ν τ σ L L' ∧ L'.l = L.l ++ [bl t 8] := by
  refine (noteClock_l M.h hl).mono ?_
  rintro e w' ⟨he, V', H', F'⟩
  exact ⟨he, ⟨L.T, V', L.l ++ [bl t 8]⟩, ⟨⟨H'⟩, Fr.of_lf F'⟩, rfl⟩
end W
end Go.Proofs.Qxb6500877aGreatDoor
