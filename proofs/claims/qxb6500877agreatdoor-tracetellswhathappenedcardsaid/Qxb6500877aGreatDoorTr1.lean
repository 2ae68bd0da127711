import Derived.Deep.CutBlock
import Derived.OwnWalk
import Derived.Maps.AppendAt
import Derived.Test.Qxb6500877aGreatDoorAs
set_option linter.unusedVariables false
set_option linter.unusedSimpArgs false
namespace Go.Proofs.Qxb6500877aGreatDoor
open Go.RowKit

/-- An event. -/
structure EvS where
  kd : Int
  ti : Int
  co : Int
  tk : Int
  tm : Int
  bx : Int
  sq : Int
  st : Int
  cd : Int
def evV (e : EvS) : Value := .agg #[.int .u8 e.kd, .int .u64 e.ti, .int .i64 e.co, .int .i64 e.tk, .int .u64 e.tm, .int .i64 e.bx, .int .u64 e.sq, .int .u8 e.st, .int .i64 e.cd]
def ev9 (e : EvS) : List Value := [.int .u8 e.kd, .int .u64 e.ti, .int .i64 e.co, .int .i64 e.tk, .int .u64 e.tm, .int .i64 e.bx, .int .u64 e.sq, .int .u8 e.st, .int .i64 e.cd]
/-- An event in memory. -/
structure Ev9 (w : World) (b o : Nat) (e : EvS) : Prop where
  c0 : w.cell? ⟨b, o, none⟩ = some (.int .u8 e.kd)
  c1 : w.cell? ⟨b, o + 1, none⟩ = some (.int .u64 e.ti)
  c2 : w.cell? ⟨b, o + 2, none⟩ = some (.int .i64 e.co)
  c3 : w.cell? ⟨b, o + 3, none⟩ = some (.int .i64 e.tk)
  c4 : w.cell? ⟨b, o + 4, none⟩ = some (.int .u64 e.tm)
  c5 : w.cell? ⟨b, o + 5, none⟩ = some (.int .i64 e.bx)
  c6 : w.cell? ⟨b, o + 6, none⟩ = some (.int .u64 e.sq)
  c7 : w.cell? ⟨b, o + 7, none⟩ = some (.int .u8 e.st)
  c8 : w.cell? ⟨b, o + 8, none⟩ = some (.int .i64 e.cd)
theorem Ev9.blk {w w' : World} {b o : Nat} {e : EvS} (h : Ev9 w b o e) (q : w'.heap[b]? = w.heap[b]?) : Ev9 w' b o e :=
  ⟨(World.cell?_of_block (a := ⟨b, o, none⟩) q).trans h.c0, (World.cell?_of_block (a := ⟨b, o + 1, none⟩) q).trans h.c1, (World.cell?_of_block (a := ⟨b, o + 2, none⟩) q).trans h.c2, (World.cell?_of_block (a := ⟨b, o + 3, none⟩) q).trans h.c3, (World.cell?_of_block (a := ⟨b, o + 4, none⟩) q).trans h.c4, (World.cell?_of_block (a := ⟨b, o + 5, none⟩) q).trans h.c5, (World.cell?_of_block (a := ⟨b, o + 6, none⟩) q).trans h.c6, (World.cell?_of_block (a := ⟨b, o + 7, none⟩) q).trans h.c7, (World.cell?_of_block (a := ⟨b, o + 8, none⟩) q).trans h.c8⟩
theorem Ev9.lt {w : World} {b o : Nat} {e : EvS} (h : Ev9 w b o e) : b < w.heap.size := World.block_lt_of_cell? _ _ h.c0
theorem Ev9.new (w : World) (e : EvS) (t : TypeId) : Ev9 (w.alloc (.cells #[.int .u8 e.kd, .int .u64 e.ti, .int .i64 e.co, .int .i64 e.tk, .int .u64 e.tm, .int .i64 e.bx, .int .u64 e.sq, .int .u8 e.st, .int .i64 e.cd] t)) w.heap.size 0 e := by
  refine ⟨?_, ?_, ?_, ?_, ?_, ?_, ?_, ?_, ?_⟩ <;> simp
/-- The ring in memory: its parts one by one; f tells what lies at a place of its buffer. -/
structure RingX (w : World) (R F N : Nat) (s n tot : Int) (cnt : Nat → Int) (f : Nat → Option EvS) : Prop where
  c0 : w.cell? ⟨R, 0, none⟩ = some (.slice (some ⟨F, 0, none⟩) N N)
  c1 : w.cell? ⟨R, 1, none⟩ = some (.int .i64 s)
  c2 : w.cell? ⟨R, 2, none⟩ = some (.int .i64 n)
  c3 : w.cell? ⟨R, 3, none⟩ = some (.int .u64 tot)
  cs : ∀ k, k < 11 → w.cell? ⟨R, 4 + k, none⟩ = some (.int .u64 (cnt k))
  ex : ∀ j, j < N * 9 → ∃ v, w.cell? ⟨F, j, none⟩ = some v
  bf : ∀ p e, p < N → f p = some e → Ev9 w F (p * 9) e
  fR : ∀ o, w.frozen? ⟨R, o, none⟩ = false
  fF : ∀ o, w.frozen? ⟨F, o, none⟩ = false
  ne : R ≠ F
theorem RingX.two {w w' : World} {R F N : Nat} {s n tot : Int} {cnt : Nat → Int} {f : Nat → Option EvS} (h : RingX w R F N s n tot cnt f) (e1 : w'.heap[R]? = w.heap[R]?) (e2 : w'.heap[F]? = w.heap[F]?) : RingX w' R F N s n tot cnt f :=
  ⟨(World.cell?_of_block (a := ⟨R, 0, none⟩) e1).trans h.c0, (World.cell?_of_block (a := ⟨R, 1, none⟩) e1).trans h.c1, (World.cell?_of_block (a := ⟨R, 2, none⟩) e1).trans h.c2, (World.cell?_of_block (a := ⟨R, 3, none⟩) e1).trans h.c3, fun k hk => (World.cell?_of_block (a := ⟨R, 4 + k, none⟩) e1).trans (h.cs k hk), fun j hj => by
    obtain ⟨v, hv⟩ := h.ex j hj
    exact ⟨v, (World.cell?_of_block (a := ⟨F, j, none⟩) e2).trans hv⟩, fun p e hp hf => (h.bf p e hp hf).blk e2, fun o => (World.frozen?_of_block (a := ⟨R, o, none⟩) e1).trans (h.fR o), fun o => (World.frozen?_of_block (a := ⟨F, o, none⟩) e2).trans (h.fF o), h.ne⟩
theorem RingX.lt {w : World} {R F N : Nat} {s n tot : Int} {cnt : Nat → Int} {f : Nat → Option EvS} (h : RingX w R F N s n tot cnt f) : R < w.heap.size := World.block_lt_of_cell? _ _ h.c0
theorem RingX.ltF {w : World} {R F N : Nat} {s n tot : Int} {cnt : Nat → Int} {f : Nat → Option EvS} (h : RingX w R F N s n tot cnt f) (hN : 0 < N) : F < w.heap.size := by
  obtain ⟨v, hv⟩ := h.ex 0 (by omega)
  exact World.block_lt_of_cell? _ _ hv
theorem RingX.drew {w : World} {R F N : Nat} {s n tot : Int} {cnt : Nat → Int} {f : Nat → Option EvS} (h : RingX w R F N s n tot cnt f) : RingX w.drew R F N s n tot cnt f := h.two rfl rfl
theorem RingX.putS {w : World} {R F N : Nat} {s n tot : Int} {cnt : Nat → Int} {f : Nat → Option EvS} (h : RingX w R F N s n tot cnt f) (v : Int) : RingX (w.setCell ⟨R, 1, none⟩ (.int .i64 v)) R F N v n tot cnt f := by
  have o : ∀ j, j ≠ 1 → (w.setCell ⟨R, 1, none⟩ (.int .i64 v)).cell? ⟨R, j, none⟩ = w.cell? ⟨R, j, none⟩ := fun j hj => World.cell?_setCell_other _ _ _ _ (by simp <;> omega)
  have eF : (w.setCell ⟨R, 1, none⟩ (.int .i64 v)).heap[F]? = w.heap[F]? := far_set (fun e => h.ne e.symm)
  exact ⟨(o 0 (by omega)).trans h.c0, World.cell?_setCell_same _ _ _ h.c1, (o 2 (by omega)).trans h.c2, (o 3 (by omega)).trans h.c3, fun k hk => (o (4 + k) (by omega)).trans (h.cs k hk), fun j hj => by
    obtain ⟨u, hu⟩ := h.ex j hj
    exact ⟨u, (World.cell?_of_block (a := ⟨F, j, none⟩) eF).trans hu⟩, fun p e hp hf => (h.bf p e hp hf).blk eF, fun o => (World.frozen?_setCell _ _ _ _).trans (h.fR o), fun o => (World.frozen?_setCell _ _ _ _).trans (h.fF o), h.ne⟩
theorem RingX.putN {w : World} {R F N : Nat} {s n tot : Int} {cnt : Nat → Int} {f : Nat → Option EvS} (h : RingX w R F N s n tot cnt f) (v : Int) : RingX (w.setCell ⟨R, 2, none⟩ (.int .i64 v)) R F N s v tot cnt f := by
  have o : ∀ j, j ≠ 2 → (w.setCell ⟨R, 2, none⟩ (.int .i64 v)).cell? ⟨R, j, none⟩ = w.cell? ⟨R, j, none⟩ := fun j hj => World.cell?_setCell_other _ _ _ _ (by simp <;> omega)
  have eF : (w.setCell ⟨R, 2, none⟩ (.int .i64 v)).heap[F]? = w.heap[F]? := far_set (fun e => h.ne e.symm)
  exact ⟨(o 0 (by omega)).trans h.c0, (o 1 (by omega)).trans h.c1, World.cell?_setCell_same _ _ _ h.c2, (o 3 (by omega)).trans h.c3, fun k hk => (o (4 + k) (by omega)).trans (h.cs k hk), fun j hj => by
    obtain ⟨u, hu⟩ := h.ex j hj
    exact ⟨u, (World.cell?_of_block (a := ⟨F, j, none⟩) eF).trans hu⟩, fun p e hp hf => (h.bf p e hp hf).blk eF, fun o => (World.frozen?_setCell _ _ _ _).trans (h.fR o), fun o => (World.frozen?_setCell _ _ _ _).trans (h.fF o), h.ne⟩
theorem RingX.putT {w : World} {R F N : Nat} {s n tot : Int} {cnt : Nat → Int} {f : Nat → Option EvS} (h : RingX w R F N s n tot cnt f) (v : Int) : RingX (w.setCell ⟨R, 3, none⟩ (.int .u64 v)) R F N s n v cnt f := by
  have o : ∀ j, j ≠ 3 → (w.setCell ⟨R, 3, none⟩ (.int .u64 v)).cell? ⟨R, j, none⟩ = w.cell? ⟨R, j, none⟩ := fun j hj => World.cell?_setCell_other _ _ _ _ (by simp <;> omega)
  have eF : (w.setCell ⟨R, 3, none⟩ (.int .u64 v)).heap[F]? = w.heap[F]? := far_set (fun e => h.ne e.symm)
  exact ⟨(o 0 (by omega)).trans h.c0, (o 1 (by omega)).trans h.c1, (o 2 (by omega)).trans h.c2, World.cell?_setCell_same _ _ _ h.c3, fun k hk => (o (4 + k) (by omega)).trans (h.cs k hk), fun j hj => by
    obtain ⟨u, hu⟩ := h.ex j hj
    exact ⟨u, (World.cell?_of_block (a := ⟨F, j, none⟩) eF).trans hu⟩, fun p e hp hf => (h.bf p e hp hf).blk eF, fun o => (World.frozen?_setCell _ _ _ _).trans (h.fR o), fun o => (World.frozen?_setCell _ _ _ _).trans (h.fF o), h.ne⟩
theorem RingX.putC {w : World} {R F N : Nat} {s n tot : Int} {cnt : Nat → Int} {f : Nat → Option EvS} (h : RingX w R F N s n tot cnt f) {k : Nat} (hk : k < 11) (v : Int) : RingX (w.setCell ⟨R, 4 + k, none⟩ (.int .u64 v)) R F N s n tot (upd cnt k v) f := by
  have o : ∀ j, j ≠ 4 + k → (w.setCell ⟨R, 4 + k, none⟩ (.int .u64 v)).cell? ⟨R, j, none⟩ = w.cell? ⟨R, j, none⟩ := fun j hj => World.cell?_setCell_other _ _ _ _ (by simp <;> omega)
  have eF : (w.setCell ⟨R, 4 + k, none⟩ (.int .u64 v)).heap[F]? = w.heap[F]? := far_set (fun e => h.ne e.symm)
  refine ⟨(o 0 (by omega)).trans h.c0, (o 1 (by omega)).trans h.c1, (o 2 (by omega)).trans h.c2, (o 3 (by omega)).trans h.c3, fun i hi => ?_, fun j hj => by
    obtain ⟨u, hu⟩ := h.ex j hj
    exact ⟨u, (World.cell?_of_block (a := ⟨F, j, none⟩) eF).trans hu⟩, fun p e hp hf => (h.bf p e hp hf).blk eF, fun o => (World.frozen?_setCell _ _ _ _).trans (h.fR o), fun o => (World.frozen?_setCell _ _ _ _).trans (h.fF o), h.ne⟩
  by_cases q : i = k
  · subst q
    rw [upd_same]
    exact World.cell?_setCell_same _ _ _ (h.cs i hi)
  · rw [upd_other _ _ q]
    exact (o (4 + i) (by omega)).trans (h.cs i hi)
/-- An event laid at a place of the buffer. -/
def putEv (w : World) (F o : Nat) (e : EvS) : World := (((((((((w.setCell ⟨F, o, none⟩ (.int .u8 e.kd)).setCell ⟨F, o + 1, none⟩ (.int .u64 e.ti)).setCell ⟨F, o + 2, none⟩ (.int .i64 e.co)).setCell ⟨F, o + 3, none⟩ (.int .i64 e.tk)).setCell ⟨F, o + 4, none⟩ (.int .u64 e.tm)).setCell ⟨F, o + 5, none⟩ (.int .i64 e.bx)).setCell ⟨F, o + 6, none⟩ (.int .u64 e.sq)).setCell ⟨F, o + 7, none⟩ (.int .u8 e.st)).setCell ⟨F, o + 8, none⟩ (.int .i64 e.cd))
theorem putEv_far (w : World) (F o : Nat) (e : EvS) {q : Nat} (h : q ≠ F) : (putEv w F o e).heap[q]? = w.heap[q]? := by
  unfold putEv
  repeat' (rw [far_set h])
theorem putEv_size (w : World) (F o : Nat) (e : EvS) : (putEv w F o e).heap.size = w.heap.size := by simp [putEv]
theorem putEv_other (w : World) (F o : Nat) (e : EvS) {j : Nat} (h : j < o ∨ o + 9 ≤ j) : (putEv w F o e).cell? ⟨F, j, none⟩ = w.cell? ⟨F, j, none⟩ := by
  unfold putEv
  repeat' (rw [World.cell?_setCell_other _ _ _ _ (by simp <;> omega)])
theorem putEv_frz (w : World) (F o : Nat) (e : EvS) (a : Addr) : (putEv w F o e).frozen? a = w.frozen? a := by
  unfold putEv
  repeat' (rw [World.frozen?_setCell])
theorem cell_keep {w : World} {a b : Addr} {v : Value} (h : ∃ u, w.cell? a = some u) : ∃ u, (w.setCell b v).cell? a = some u := by
  by_cases e : b = a
  · subst e
    obtain ⟨u, hu⟩ := h
    exact ⟨v, World.cell?_setCell_same _ _ _ hu⟩
  · rw [World.cell?_setCell_other _ _ _ _ e]; exact h
theorem putEv_ex {w : World} {F o j : Nat} {e : EvS} (h : ∃ v, w.cell? ⟨F, j, none⟩ = some v) : ∃ v, (putEv w F o e).cell? ⟨F, j, none⟩ = some v := by
  unfold putEv
  repeat' (refine cell_keep ?_)
  exact h
theorem putEv_at {w : World} {F o : Nat} {e : EvS} (h : ∀ i, i < 9 → ∃ v, w.cell? ⟨F, o + i, none⟩ = some v) : Ev9 (putEv w F o e) F o e := by
  obtain ⟨v0, h0⟩ := h 0 (by omega)
  obtain ⟨v1, h1⟩ := h 1 (by omega)
  obtain ⟨v2, h2⟩ := h 2 (by omega)
  obtain ⟨v3, h3⟩ := h 3 (by omega)
  obtain ⟨v4, h4⟩ := h 4 (by omega)
  obtain ⟨v5, h5⟩ := h 5 (by omega)
  obtain ⟨v6, h6⟩ := h 6 (by omega)
  obtain ⟨v7, h7⟩ := h 7 (by omega)
  obtain ⟨v8, h8⟩ := h 8 (by omega)
  rw [Nat.add_zero] at h0
  refine ⟨?_, ?_, ?_, ?_, ?_, ?_, ?_, ?_, ?_⟩
  · have hx : ∃ u, w.cell? ⟨F, o, none⟩ = some u := by
      repeat' (refine cell_keep ?_)
      exact ⟨_, h0⟩
    obtain ⟨u, hu⟩ := hx
    unfold putEv
    rw [World.cell?_setCell_other _ _ _ _ (by simp <;> omega), World.cell?_setCell_other _ _ _ _ (by simp <;> omega), World.cell?_setCell_other _ _ _ _ (by simp <;> omega), World.cell?_setCell_other _ _ _ _ (by simp <;> omega), World.cell?_setCell_other _ _ _ _ (by simp <;> omega), World.cell?_setCell_other _ _ _ _ (by simp <;> omega), World.cell?_setCell_other _ _ _ _ (by simp <;> omega), World.cell?_setCell_other _ _ _ _ (by simp <;> omega)]
    exact World.cell?_setCell_same _ _ _ hu
  · have hx : ∃ u, (w.setCell ⟨F, o, none⟩ (.int .u8 e.kd)).cell? ⟨F, o + 1, none⟩ = some u := by
      repeat' (refine cell_keep ?_)
      exact ⟨_, h1⟩
    obtain ⟨u, hu⟩ := hx
    unfold putEv
    rw [World.cell?_setCell_other _ _ _ _ (by simp <;> omega), World.cell?_setCell_other _ _ _ _ (by simp <;> omega), World.cell?_setCell_other _ _ _ _ (by simp <;> omega), World.cell?_setCell_other _ _ _ _ (by simp <;> omega), World.cell?_setCell_other _ _ _ _ (by simp <;> omega), World.cell?_setCell_other _ _ _ _ (by simp <;> omega), World.cell?_setCell_other _ _ _ _ (by simp <;> omega)]
    exact World.cell?_setCell_same _ _ _ hu
  · have hx : ∃ u, ((w.setCell ⟨F, o, none⟩ (.int .u8 e.kd)).setCell ⟨F, o + 1, none⟩ (.int .u64 e.ti)).cell? ⟨F, o + 2, none⟩ = some u := by
      repeat' (refine cell_keep ?_)
      exact ⟨_, h2⟩
    obtain ⟨u, hu⟩ := hx
    unfold putEv
    rw [World.cell?_setCell_other _ _ _ _ (by simp <;> omega), World.cell?_setCell_other _ _ _ _ (by simp <;> omega), World.cell?_setCell_other _ _ _ _ (by simp <;> omega), World.cell?_setCell_other _ _ _ _ (by simp <;> omega), World.cell?_setCell_other _ _ _ _ (by simp <;> omega), World.cell?_setCell_other _ _ _ _ (by simp <;> omega)]
    exact World.cell?_setCell_same _ _ _ hu
  · have hx : ∃ u, (((w.setCell ⟨F, o, none⟩ (.int .u8 e.kd)).setCell ⟨F, o + 1, none⟩ (.int .u64 e.ti)).setCell ⟨F, o + 2, none⟩ (.int .i64 e.co)).cell? ⟨F, o + 3, none⟩ = some u := by
      repeat' (refine cell_keep ?_)
      exact ⟨_, h3⟩
    obtain ⟨u, hu⟩ := hx
    unfold putEv
    rw [World.cell?_setCell_other _ _ _ _ (by simp <;> omega), World.cell?_setCell_other _ _ _ _ (by simp <;> omega), World.cell?_setCell_other _ _ _ _ (by simp <;> omega), World.cell?_setCell_other _ _ _ _ (by simp <;> omega), World.cell?_setCell_other _ _ _ _ (by simp <;> omega)]
    exact World.cell?_setCell_same _ _ _ hu
  · have hx : ∃ u, ((((w.setCell ⟨F, o, none⟩ (.int .u8 e.kd)).setCell ⟨F, o + 1, none⟩ (.int .u64 e.ti)).setCell ⟨F, o + 2, none⟩ (.int .i64 e.co)).setCell ⟨F, o + 3, none⟩ (.int .i64 e.tk)).cell? ⟨F, o + 4, none⟩ = some u := by
      repeat' (refine cell_keep ?_)
      exact ⟨_, h4⟩
    obtain ⟨u, hu⟩ := hx
    unfold putEv
    rw [World.cell?_setCell_other _ _ _ _ (by simp <;> omega), World.cell?_setCell_other _ _ _ _ (by simp <;> omega), World.cell?_setCell_other _ _ _ _ (by simp <;> omega), World.cell?_setCell_other _ _ _ _ (by simp <;> omega)]
    exact World.cell?_setCell_same _ _ _ hu
  · have hx : ∃ u, (((((w.setCell ⟨F, o, none⟩ (.int .u8 e.kd)).setCell ⟨F, o + 1, none⟩ (.int .u64 e.ti)).setCell ⟨F, o + 2, none⟩ (.int .i64 e.co)).setCell ⟨F, o + 3, none⟩ (.int .i64 e.tk)).setCell ⟨F, o + 4, none⟩ (.int .u64 e.tm)).cell? ⟨F, o + 5, none⟩ = some u := by
      repeat' (refine cell_keep ?_)
      exact ⟨_, h5⟩
    obtain ⟨u, hu⟩ := hx
    unfold putEv
    rw [World.cell?_setCell_other _ _ _ _ (by simp <;> omega), World.cell?_setCell_other _ _ _ _ (by simp <;> omega), World.cell?_setCell_other _ _ _ _ (by simp <;> omega)]
    exact World.cell?_setCell_same _ _ _ hu
  · have hx : ∃ u, ((((((w.setCell ⟨F, o, none⟩ (.int .u8 e.kd)).setCell ⟨F, o + 1, none⟩ (.int .u64 e.ti)).setCell ⟨F, o + 2, none⟩ (.int .i64 e.co)).setCell ⟨F, o + 3, none⟩ (.int .i64 e.tk)).setCell ⟨F, o + 4, none⟩ (.int .u64 e.tm)).setCell ⟨F, o + 5, none⟩ (.int .i64 e.bx)).cell? ⟨F, o + 6, none⟩ = some u := by
      repeat' (refine cell_keep ?_)
      exact ⟨_, h6⟩
    obtain ⟨u, hu⟩ := hx
    unfold putEv
    rw [World.cell?_setCell_other _ _ _ _ (by simp <;> omega), World.cell?_setCell_other _ _ _ _ (by simp <;> omega)]
    exact World.cell?_setCell_same _ _ _ hu
  · have hx : ∃ u, (((((((w.setCell ⟨F, o, none⟩ (.int .u8 e.kd)).setCell ⟨F, o + 1, none⟩ (.int .u64 e.ti)).setCell ⟨F, o + 2, none⟩ (.int .i64 e.co)).setCell ⟨F, o + 3, none⟩ (.int .i64 e.tk)).setCell ⟨F, o + 4, none⟩ (.int .u64 e.tm)).setCell ⟨F, o + 5, none⟩ (.int .i64 e.bx)).setCell ⟨F, o + 6, none⟩ (.int .u64 e.sq)).cell? ⟨F, o + 7, none⟩ = some u := by
      repeat' (refine cell_keep ?_)
      exact ⟨_, h7⟩
    obtain ⟨u, hu⟩ := hx
    unfold putEv
    rw [World.cell?_setCell_other _ _ _ _ (by simp <;> omega)]
    exact World.cell?_setCell_same _ _ _ hu
  · have hx : ∃ u, ((((((((w.setCell ⟨F, o, none⟩ (.int .u8 e.kd)).setCell ⟨F, o + 1, none⟩ (.int .u64 e.ti)).setCell ⟨F, o + 2, none⟩ (.int .i64 e.co)).setCell ⟨F, o + 3, none⟩ (.int .i64 e.tk)).setCell ⟨F, o + 4, none⟩ (.int .u64 e.tm)).setCell ⟨F, o + 5, none⟩ (.int .i64 e.bx)).setCell ⟨F, o + 6, none⟩ (.int .u64 e.sq)).setCell ⟨F, o + 7, none⟩ (.int .u8 e.st)).cell? ⟨F, o + 8, none⟩ = some u := by
      repeat' (refine cell_keep ?_)
      exact ⟨_, h8⟩
    obtain ⟨u, hu⟩ := hx
    unfold putEv
    exact World.cell?_setCell_same _ _ _ hu
theorem RingX.putEv {w : World} {R F N : Nat} {s n tot : Int} {cnt : Nat → Int} {f : Nat → Option EvS} (h : RingX w R F N s n tot cnt f) {p : Nat} (hp : p < N) (e : EvS) : RingX (putEv w F (p * 9) e) R F N s n tot cnt (upd f p (some e)) := by
  have eR : (Go.Proofs.Qxb6500877aGreatDoor.putEv w F (p * 9) e).heap[R]? = w.heap[R]? := putEv_far _ _ _ _ h.ne
  refine ⟨(World.cell?_of_block (a := ⟨R, 0, none⟩) eR).trans h.c0, (World.cell?_of_block (a := ⟨R, 1, none⟩) eR).trans h.c1, (World.cell?_of_block (a := ⟨R, 2, none⟩) eR).trans h.c2, (World.cell?_of_block (a := ⟨R, 3, none⟩) eR).trans h.c3, fun k hk => (World.cell?_of_block (a := ⟨R, 4 + k, none⟩) eR).trans (h.cs k hk), fun j hj => putEv_ex (h.ex j hj), fun q u hq hf => ?_, fun o => (putEv_frz _ _ _ _ _).trans (h.fR o), fun o => (putEv_frz _ _ _ _ _).trans (h.fF o), h.ne⟩
  by_cases z : q = p
  · subst z
    rw [upd_same] at hf
    cases hf
    exact putEv_at (fun i hi => h.ex _ (by omega))
  · rw [upd_other _ _ z] at hf
    have b := h.bf q u hq hf
    have ap : q * 9 + 9 ≤ p * 9 ∨ p * 9 + 9 ≤ q * 9 := by omega
    refine ⟨(putEv_other _ _ _ _ (by omega)).trans b.c0, (putEv_other _ _ _ _ (by omega)).trans b.c1, (putEv_other _ _ _ _ (by omega)).trans b.c2, (putEv_other _ _ _ _ (by omega)).trans b.c3, (putEv_other _ _ _ _ (by omega)).trans b.c4, (putEv_other _ _ _ _ (by omega)).trans b.c5, (putEv_other _ _ _ _ (by omega)).trans b.c6, (putEv_other _ _ _ _ (by omega)).trans b.c7, (putEv_other _ _ _ _ (by omega)).trans b.c8⟩
end Go.Proofs.Qxb6500877aGreatDoor
