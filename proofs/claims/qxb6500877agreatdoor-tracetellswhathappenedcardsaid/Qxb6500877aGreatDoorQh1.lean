import Derived.Test.Qxb6500877aGreatDoorQh0
import Derived.Test.Qxb6500877aGreatDoorPMa
set_option linter.unusedVariables false
set_option linter.unusedSimpArgs false
namespace Go.Proofs.Qxb6500877aGreatDoor
open Go.RowKit

def mkSnap (t : Nat) (ν : Net) (σ : Sg) (Q : Nat → Nat → List Nat) (l : List TmR) (nx : Int) : Snap :=
  ⟨t, fun x => ((σ.s.tk x).st, (σ.s.tk x).home, IntKind.i64.wrap (σ.s.tk x).band), σ.s.cur, fun c => preQ (Q c) 4, σ.s.ld, σ.st, fun b => boxL (ν.box b), fun b => (ν.box b).acc, l, nx⟩
/-- The snapshot at work. -/
structure SA (w wr : World) (B mb t k : Nat) (ν : Net) (τ : TSt) (σ : Sg) (b2 b3 base : Nat) (D : Nat → Prop) (S : Snap) : Prop where
  m : Mach wr B mb t k ν τ σ
  x : StX wr b3 base D S
  r : ∃ cs : Array Value, wr.heap[b2]? = some (.cells cs 61) ∧ cs.size = 123
  b : Below w.heap.size w wr
  s : base ≤ wr.heap.size
theorem SA.put {w wr : World} {B mb t k : Nat} {ν : Net} {τ : TSt} {σ : Sg} {b2 b3 base j : Nat} {D : Nat → Prop} {S : Snap} {v : Value} (h : SA w wr B mb t k ν τ σ b2 b3 base D S) (hb : w.heap.size ≤ b2 ∧ b2 < b3 ∧ b3 < base) (hB : B < w.heap.size) (hm : mb < w.heap.size) (hj : j < 123) (hv : SCell wr base S j v) (D' : Nat → Prop) (hD : ∀ i, i < 123 → D' i → D i ∨ i = j) : SA w (wr.setCell ⟨b3, j, none⟩ v) B mb t k ν τ σ b2 b3 base D' S := by
  have h2 := h.m.hB
  refine ⟨h.m.fresh ⟨b3, j, none⟩ ⟨by show b3 ≠ B; omega, by show b3 ≠ mb; omega, by show 2 < b3; omega⟩ v, h.x.put hb.2.2 hj hv D' hD, ?_, below_cell h.b ⟨b3, j, none⟩ (by show w.heap.size ≤ b3; omega) v, by simpa using h.s⟩
  obtain ⟨cs, h1, h2⟩ := h.r
  exact ⟨cs, by simp only [World.setCell, Array.getElem?_modify]; rw [if_neg (by omega)]; exact h1, h2⟩
theorem SA.grow {w wr w' : World} {B mb t k : Nat} {ν : Net} {τ : TSt} {σ : Sg} {b2 b3 base : Nat} {D : Nat → Prop} {S : Snap} (h : SA w wr B mb t k ν τ σ b2 b3 base D S) (hs : w.heap.size ≤ wr.heap.size) (hb : Below wr.heap.size wr w') : SA w w' B mb t k ν τ σ b2 b3 base D S := by
  refine ⟨h.m.below hb, h.x.grow hb.size hb.block, ?_, h.b.trans (hb.mono hs), Nat.le_trans h.s hb.size⟩
  obtain ⟨cs, h1, h2⟩ := h.r
  have hlt : b2 < wr.heap.size := by
    by_cases q : b2 < wr.heap.size
    · exact q
    · rw [Array.getElem?_eq_none (by omega)] at h1; simp at h1
  exact ⟨cs, (hb.block b2 hlt).trans h1, h2⟩
theorem SA.drew {w wr : World} {B mb t k : Nat} {ν : Net} {τ : TSt} {σ : Sg} {b2 b3 base : Nat} {D : Nat → Prop} {S : Snap} (h : SA w wr B mb t k ν τ σ b2 b3 base D S) : SA w wr.drew B mb t k ν τ σ b2 b3 base D S := ⟨h.m.drew, h.x.drew, h.r, below_dr h.b, h.s⟩
theorem SA.mono {w wr : World} {B mb t k : Nat} {ν : Net} {τ : TSt} {σ : Sg} {b2 b3 base : Nat} {D D' : Nat → Prop} {S : Snap} (h : SA w wr B mb t k ν τ σ b2 b3 base D S) (hD : ∀ i, i < 123 → D' i → D i) : SA w wr B mb t k ν τ σ b2 b3 base D' S :=
  ⟨h.m, ⟨fun j hj => by
    obtain ⟨v, h1, h2⟩ := h.x.ex j hj
    exact ⟨v, h1, fun q => h2 (hD j hj q)⟩, h.x.row⟩, h.r, h.b, h.s⟩
theorem scell_now {w : World} {base : Nat} {S : Snap} : SCell w base S 0 (.int .u64 S.now) := by simp [SCell]
theorem scell_task {w : World} {base i : Nat} {S : Snap} (hi : i < 16) : SCell w base S (1 + i * 3) (.int .u8 (S.tk i).1) ∧ SCell w base S (1 + i * 3 + 1) (.int .i64 (S.tk i).2.1) ∧ SCell w base S (1 + i * 3 + 2) (.int .i64 (S.tk i).2.2) := by
  refine ⟨?_, ?_, ?_⟩
  · unfold SCell
    rw [if_neg (by omega), if_pos (by omega), if_pos (by omega), show (1 + i * 3 - 1) / 3 = i by omega]
  · unfold SCell
    rw [if_neg (by omega), if_pos (by omega), if_neg (by omega), if_pos (by omega), show (1 + i * 3 + 1 - 1) / 3 = i by omega]
  · unfold SCell
    rw [if_neg (by omega), if_pos (by omega), if_neg (by omega), if_neg (by omega), show (1 + i * 3 + 2 - 1) / 3 = i by omega]
theorem scell_core {w : World} {base c : Nat} {S : Snap} (hc : c < 4) : SCell w base S (49 + c * 10) (.int .i64 (S.cur c)) ∧ (∀ v, IdsAt w base v (S.q c) → SCell w base S (49 + c * 10 + 1) v) ∧ SCell w base S (49 + c * 10 + 2) (.int .i64 (S.ld c)) ∧ ∀ f, f < 7 → SCell w base S (49 + c * 10 + (3 + f)) (.int .u64 (S.st (c * 7 + f))) := by
  refine ⟨?_, fun v hv => ?_, ?_, fun f hf => ?_⟩
  · unfold SCell
    rw [if_neg (by omega), if_neg (by omega), if_pos (by omega), if_pos (by omega), show (49 + c * 10 - 49) / 10 = c by omega]
  · unfold SCell
    rw [if_neg (by omega), if_neg (by omega), if_pos (by omega), if_neg (by omega), if_pos (by omega), show (49 + c * 10 + 1 - 49) / 10 = c by omega]
    exact hv
  · unfold SCell
    rw [if_neg (by omega), if_neg (by omega), if_pos (by omega), if_neg (by omega), if_neg (by omega), if_pos (by omega), show (49 + c * 10 + 2 - 49) / 10 = c by omega]
  · unfold SCell
    rw [if_neg (by omega), if_neg (by omega), if_pos (by omega), if_neg (by omega), if_neg (by omega), if_neg (by omega), show (49 + c * 10 + (3 + f) - 49) / 10 * 7 + ((49 + c * 10 + (3 + f) - 49) % 10 - 3) = c * 7 + f by omega]
theorem scell_box {w : World} {base b : Nat} {S : Snap} (hb : b < 16) : (∀ v, MsgsAt w base v (S.box b) → SCell w base S (89 + b) v) ∧ SCell w base S (105 + b) (.int .u64 (S.acc b)) := by
  refine ⟨fun v hv => ?_, ?_⟩
  · unfold SCell
    rw [if_neg (by omega), if_neg (by omega), if_neg (by omega), if_pos (by omega), show 89 + b - 89 = b by omega]
    exact hv
  · unfold SCell
    rw [if_neg (by omega), if_neg (by omega), if_neg (by omega), if_neg (by omega), if_pos (by omega), show 105 + b - 105 = b by omega]
theorem scell_end {w : World} {base : Nat} {S : Snap} : (∀ v, TmsAt w base v S.tm → SCell w base S 121 v) ∧ SCell w base S 122 (.int .u64 S.nx) := by
  refine ⟨fun v hv => ?_, ?_⟩
  · unfold SCell
    simp
    exact hv
  · unfold SCell
    simp
theorem wpList_load_row {P : Program} {w : World} {ops : Array Oper} {rest : List Oper} {o : Oper} {a : Act} {Q : Exit → Act → World → Prop} (hg : o.guard = none) (x : Operand) (t : TypeId) (hop : o.op = Op.load t x) (ad : Addr) (v : Value) (hx : a.eval x = .pointer (some ad)) (hrun : (loadVar t ad).run P w = .ok v w)
    (hK : wpList P ops Q rest (a.put o.dst v) w) : wpList P ops Q (o :: rest) a w := by
  refine wpList_plain hg fun K hK' => ?_
  unfold Oper.wp
  simp [execOp, hop, hx, Instr.loadAt, Instr.sureAddr, hrun, Result.andThen]
  exact hK' _ _ hK
theorem wpList_store_row {P : Program} {w w' : World} {ops : Array Oper} {rest : List Oper} {o : Oper} {a : Act} {Q : Exit → Act → World → Prop} (hg : o.guard = none) (x y : Operand) (t : TypeId) (hop : o.op = Op.store t x y) (ad : Addr) (v : Value) (hx : a.eval x = .pointer (some ad)) (hy : a.eval y = v) (hrun : (storeVar t ad v).run P w = .ok () w')
    (hK : wpList P ops Q rest (a.put o.dst undef) w') : wpList P ops Q (o :: rest) a w := by
  refine wpList_plain hg fun K hK' => ?_
  unfold Oper.wp
  simp [execOp, hop, hx, hy, Instr.storeAt, Instr.sureAddr, hrun, Result.andThen]
  exact hK' _ _ hK
theorem setRow_row {w : World} {b : Nat} {cs c2 : Array Value} {t : TypeId} (h : w.heap[b]? = some (.cells c2 t)) : (w.setRow b cs).heap[b]? = some (.cells cs t) := by
  simp only [World.setRow, Array.getElem?_modify]
  rw [if_pos trivial, h]
  rfl
theorem setRow_far {w : World} {b q : Nat} {cs : Array Value} (h : q ≠ b) : (w.setRow b cs).heap[q]? = w.heap[q]? := by
  simp only [World.setRow, Array.getElem?_modify]
  rw [if_neg (fun e => h e.symm)]
theorem setRow_size (w : World) (b : Nat) (cs : Array Value) : (w.setRow b cs).heap.size = w.heap.size := by simp [World.setRow]
theorem shape_one {v : Value} {p : Option Addr} {n c : Nat} (h : v = .slice p n c) : v.oneCell' = true := by rw [h]; rfl
theorem scell_one {w : World} {base : Nat} {S : Snap} {j : Nat} {v : Value} (h : SCell w base S j v) : v.oneCell' = true := by
  unfold SCell at h
  repeat' split at h
  all_goals first | (rw [h]; rfl) | (rcases h with ⟨_, rfl⟩ | ⟨g, cap, h1, _⟩ <;> first | rfl | exact shape_one h1)
theorem heap_far {w : World} (q : Addr) (v : Value) {b : Nat} (h : q.block ≠ b) : (w.setCell q v).heap[b]? = w.heap[b]? := by
  simp only [World.setCell, Array.getElem?_modify]
  rw [if_neg h]
theorem IdsAt.shape {w : World} {base : Nat} {v : Value} {l : List Nat} (h : IdsAt w base v l) : ∃ p cap, v = .slice p l.length cap := by
  rcases h with ⟨rfl, rfl⟩ | ⟨g, cap, h1, _⟩
  · exact ⟨none, 0, rfl⟩
  · exact ⟨_, _, h1⟩
theorem MsgsAt.shape {w : World} {base : Nat} {v : Value} {l : List MsgV} (h : MsgsAt w base v l) : ∃ p cap, v = .slice p l.length cap := by
  rcases h with ⟨rfl, rfl⟩ | ⟨g, cap, h1, _⟩
  · exact ⟨none, 0, rfl⟩
  · exact ⟨_, _, h1⟩
theorem TmsAt.shape {w : World} {base : Nat} {v : Value} {l : List TmR} (h : TmsAt w base v l) : ∃ p cap, v = .slice p l.length cap := by
  rcases h with ⟨rfl, rfl⟩ | ⟨g, cap, h1, _⟩
  · exact ⟨none, 0, rfl⟩
  · exact ⟨_, _, h1⟩
/-- The cells of the machine that tell of a core. -/
structure CoreC (w : World) (B c : Nat) (σ : Sg) : Prop where
  cu : w.cell? ⟨B, 6716 + c, none⟩ = some (.int .i64 (σ.s.cur c))
  ld : w.cell? ⟨B, 6720 + c, none⟩ = some (.int .i64 (σ.s.ld c))
  s0 : w.cell? ⟨B, 6724 + c * 7, none⟩ = some (.int .u64 (σ.st (c * 7)))
  s1 : w.cell? ⟨B, 6724 + c * 7 + 1, none⟩ = some (.int .u64 (σ.st (c * 7 + 1)))
  s2 : w.cell? ⟨B, 6724 + c * 7 + 2, none⟩ = some (.int .u64 (σ.st (c * 7 + 2)))
  s3 : w.cell? ⟨B, 6724 + c * 7 + 3, none⟩ = some (.int .u64 (σ.st (c * 7 + 3)))
  s4 : w.cell? ⟨B, 6724 + c * 7 + 4, none⟩ = some (.int .u64 (σ.st (c * 7 + 4)))
  s5 : w.cell? ⟨B, 6724 + c * 7 + 5, none⟩ = some (.int .u64 (σ.st (c * 7 + 5)))
  s6 : w.cell? ⟨B, 6724 + c * 7 + 6, none⟩ = some (.int .u64 (σ.st (c * 7 + 6)))
theorem Mach.core {w : World} {B mb t k : Nat} {ν : Net} {τ : TSt} {σ : Sg} (h : Mach w B mb t k ν τ σ) {c : Nat} (hc : c < 4) : CoreC w B c σ := by
  have q := fun j hj => h.sts (c * 7 + j) (by omega : c * 7 + j < 28)
  exact ⟨(h.sch.1.core hc).1, (h.sch.1.core hc).2, q 0 (by omega), q 1 (by omega), q 2 (by omega), q 3 (by omega), q 4 (by omega), q 5 (by omega), q 6 (by omega)⟩
end Go.Proofs.Qxb6500877aGreatDoor
