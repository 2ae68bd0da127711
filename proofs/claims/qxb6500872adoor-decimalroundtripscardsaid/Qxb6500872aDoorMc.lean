import Derived.Test.Qxb6500872aDoorMa
set_option linter.unusedVariables false
namespace Go.Proofs.Qxb6500872aDoor
open Go.RowKit

def regV (x : Reg) : Value := .agg #[.bool x.m, .slice x.p x.k x.c]
def regsV (R : Nat → Reg) : Array Value := #[.bool (R 0).m, .slice (R 0).p (R 0).k (R 0).c, .bool (R 1).m, .slice (R 1).p (R 1).k (R 1).c, .bool (R 2).m, .slice (R 2).p (R 2).k (R 2).c, .bool (R 3).m, .slice (R 3).p (R 3).k (R 3).c, .bool (R 4).m, .slice (R 4).p (R 4).k (R 4).c, .bool (R 5).m, .slice (R 5).p (R 5).k (R 5).c, .bool (R 6).m, .slice (R 6).p (R 6).k (R 6).c, .bool (R 7).m, .slice (R 7).p (R 7).k (R 7).c]

theorem idx0 (R : Nat → Reg) (w : World) : (Instr.index 29 (.agg (regsV R)) (.int .i64 ((0 : Nat) : Int))).run Tryd.prog w = .ok (regV (R 0)) w := by kernel_rfl
theorem idx1 (R : Nat → Reg) (w : World) : (Instr.index 29 (.agg (regsV R)) (.int .i64 ((1 : Nat) : Int))).run Tryd.prog w = .ok (regV (R 1)) w := by kernel_rfl
theorem idx2 (R : Nat → Reg) (w : World) : (Instr.index 29 (.agg (regsV R)) (.int .i64 ((2 : Nat) : Int))).run Tryd.prog w = .ok (regV (R 2)) w := by kernel_rfl
theorem idx3 (R : Nat → Reg) (w : World) : (Instr.index 29 (.agg (regsV R)) (.int .i64 ((3 : Nat) : Int))).run Tryd.prog w = .ok (regV (R 3)) w := by kernel_rfl
theorem idx4 (R : Nat → Reg) (w : World) : (Instr.index 29 (.agg (regsV R)) (.int .i64 ((4 : Nat) : Int))).run Tryd.prog w = .ok (regV (R 4)) w := by kernel_rfl
theorem idx5 (R : Nat → Reg) (w : World) : (Instr.index 29 (.agg (regsV R)) (.int .i64 ((5 : Nat) : Int))).run Tryd.prog w = .ok (regV (R 5)) w := by kernel_rfl
theorem idx6 (R : Nat → Reg) (w : World) : (Instr.index 29 (.agg (regsV R)) (.int .i64 ((6 : Nat) : Int))).run Tryd.prog w = .ok (regV (R 6)) w := by kernel_rfl
theorem idx7 (R : Nat → Reg) (w : World) : (Instr.index 29 (.agg (regsV R)) (.int .i64 ((7 : Nat) : Int))).run Tryd.prog w = .ok (regV (R 7)) w := by kernel_rfl
theorem idx_reg (R : Nat → Reg) {j : Nat} (hj : j < 8) (w : World) : (Instr.index 29 (.agg (regsV R)) (.int .i64 (j : Int))).run Tryd.prog w = .ok (regV (R j)) w := by
  have hc : j = 0 ∨ j = 1 ∨ j = 2 ∨ j = 3 ∨ j = 4 ∨ j = 5 ∨ j = 6 ∨ j = 7 := by omega
  clear hj
  rcases hc with rfl | rfl | rfl | rfl | rfl | rfl | rfl | rfl
  · exact idx0 R w
  · exact idx1 R w
  · exact idx2 R w
  · exact idx3 R w
  · exact idx4 R w
  · exact idx5 R w
  · exact idx6 R w
  · exact idx7 R w

/-- The outer loop. -/
def OInv (w : World) (n g : Nat) (i : Value) (wr : World) : Prop :=
  ∃ (k : Nat) (R : Nat → Reg), k + g = n ∧ i = .int .i64 (k : Int) ∧ Regs wr w.heap.size (128 + k) R ∧ Below w.heap.size w wr
/-- The inner loop. -/
def IInv (w : World) (g : Nat) (i : Value) (wr : World) : Prop :=
  ∃ j : Nat, j + g = 8 ∧ i = .int .i64 (j : Int) ∧ Below w.heap.size w wr

/-- Behind a step: the op's own block, the answer's block, the machine. -/
def After (w : World) (K : Nat) (o : OpR) (s5 s6 : Value) (wc : World) : Prop :=
  ∃ (b5 b6 : Nat) (code : Int) (R : Nat → Reg), s5 = .pointer (some ⟨b5, 0, none⟩) ∧ s6 = .pointer (some ⟨b6, 0, none⟩) ∧
    wc.cell? ⟨b5, 0, none⟩ = some (.int .i64 o.k) ∧ wc.cell? ⟨b5, 1, none⟩ = some (.int .i64 o.d) ∧ wc.cell? ⟨b5, 7, none⟩ = some (.string o.s) ∧ wc.cell? ⟨b6, 0, none⟩ = some (.int .i64 code) ∧
    Regs wc w.heap.size (K + 1) R ∧ Below w.heap.size w wc ∧
    (o.k = 1 → code = 0 → Digs (strip (tx o.s)).2 ∧ o.s.size ≤ 576 ∧ ∃ r : Nat, o.d = r ∧ r < 8 ∧ nl (R r).zs (R r).k = (R r).k ∧ pv (R r).zs (R r).k = dval (strip (tx o.s)).2 ∧ (R r).m = ((strip (tx o.s)).1 && decide (0 < (R r).k)))

theorem below_but {w W w' : World} {B : Nat} (h : Below w.heap.size w W) (hb : But B W w') (hB : w.heap.size ≤ B) : Below w.heap.size w w' :=
  ⟨hb.os.trans h.os, hb.tape.trans h.tape, hb.output.trans h.output, Nat.le_trans h.size hb.size, fun k hk => (hb.block k (Nat.lt_of_lt_of_le hk h.size) (by omega)).trans (h.block k hk)⟩

theorem But.cell {w w' : World} {B b o : Nat} {v : Value} (h : But B w w') (hc : w.cell? ⟨b, o, none⟩ = some v) (hb : b ≠ B) : w'.cell? ⟨b, o, none⟩ = some v := by
  have hlt : b < w.heap.size := World.block_lt_of_cell? _ _ hc
  rw [← hc]
  simp only [World.cell?, h.block b hlt hb]

theorem start_regs (w : World) : Regs (w.alloc (.cells #[.bool false, .slice none 0 0, .bool false, .slice none 0 0, .bool false, .slice none 0 0, .bool false, .slice none 0 0, .bool false, .slice none 0 0, .bool false, .slice none 0 0, .bool false, .slice none 0 0, .bool false, .slice none 0 0] 31)) w.heap.size 128 (fun _ => ⟨false, none, 0, 0, []⟩) := by
  intro r hr
  have hL := Limbs.nil (w.alloc (.cells #[.bool false, .slice none 0 0, .bool false, .slice none 0 0, .bool false, .slice none 0 0, .bool false, .slice none 0 0, .bool false, .slice none 0 0, .bool false, .slice none 0 0, .bool false, .slice none 0 0, .bool false, .slice none 0 0] 31))
  match r, hr with
  | 0, _ => exact ⟨by simp, by simp, by simp, by simp, hL, by simp⟩
  | 1, _ => exact ⟨by simp, by simp, by simp, by simp, hL, by simp⟩
  | 2, _ => exact ⟨by simp, by simp, by simp, by simp, hL, by simp⟩
  | 3, _ => exact ⟨by simp, by simp, by simp, by simp, hL, by simp⟩
  | 4, _ => exact ⟨by simp, by simp, by simp, by simp, hL, by simp⟩
  | 5, _ => exact ⟨by simp, by simp, by simp, by simp, hL, by simp⟩
  | 6, _ => exact ⟨by simp, by simp, by simp, by simp, hL, by simp⟩
  | 7, _ => exact ⟨by simp, by simp, by simp, by simp, hL, by simp⟩

theorem limbs_on {w w' : World} {a : Option Addr} {n c : Nat} (h : ∃ zs, Limbs w a n c zs) (hb : Below w.heap.size w w') : ∃ zs, Limbs w' a n c zs := by
  obtain ⟨zs, h⟩ := h
  exact ⟨zs, h.below hb⟩

/-- A register and its text, read back. -/
def BackOk (w : World) (x : Reg) (p' : Option Addr) (N : Nat) (mm : Bool) : Prop :=
  Limbs w x.p x.k x.c x.zs ∧ N = nl x.zs x.k ∧ mm = (x.m && decide (0 < nl x.zs x.k)) ∧ ∃ zs, Limbs w p' N N zs ∧ nl zs N = N ∧ ∀ j, j < N → zs[j]?.getD 0 = (norm x.zs)[j]?.getD 0

theorem BackOk.below {w w' : World} {x : Reg} {p' : Option Addr} {N : Nat} {mm : Bool} (h : BackOk w x p' N mm) (hb : Below w.heap.size w w') : BackOk w' x p' N mm := by
  obtain ⟨h1, h2, h3, zs, h4, h5, h6⟩ := h
  exact ⟨h1.below hb, h2, h3, zs, h4.below hb, h5, h6⟩

theorem back9 {w : World} {x : Reg} {p' : Option Addr} {N : Nat} {mm : Bool} (h : BackOk w x p' N mm) :
    Calls Tryd.prog 9 #[.agg #[.bool x.m, .slice x.p x.k x.c]] w fun e w' => e = .returned (.agg #[.bool mm, .slice x.p N N]) ∧ Below w.heap.size w w' := by
  obtain ⟨h1, rfl, rfl, zs, h4, h5, h6⟩ := h
  exact inorm_any h1
theorem back8 {w : World} {x : Reg} {p' : Option Addr} {N : Nat} {mm : Bool} (h : BackOk w x p' N mm) :
    Calls Tryd.prog 8 #[.agg #[.bool mm, .slice p' N N], .agg #[.bool mm, .slice x.p N N]] w fun e w' => e = .returned (.bool true) ∧ Below w.heap.size w w' := by
  obtain ⟨h1, rfl, rfl, zs, h4, h5, h6⟩ := h
  exact same_eq h4 h1.norm h6
theorem back10 {w : World} {x : Reg} {p' : Option Addr} {N : Nat} {mm : Bool} (h : BackOk w x p' N mm) :
    Calls Tryd.prog 10 #[.agg #[.bool mm, .slice p' N N]] w fun e w' => e = .returned (.bool true) ∧ Below w.heap.size w w' := by
  obtain ⟨h1, rfl, rfl, zs, h4, h5, h6⟩ := h
  exact normal_ok h4 h5 (fun h0 => by simp [h0])

/-- Behind a register's reading. -/
def ReadAt (wc : World) (x : Reg) (s8 s9 s10 : Value) (wd : World) : Prop :=
  ∃ (b8 b9 : Nat) (p' : Option Addr) (N : Nat) (mm : Bool), s8 = .pointer (some ⟨b8, 0, none⟩) ∧ s9 = .pointer (some ⟨b9, 0, none⟩) ∧ s10 = .nilIface ∧
    wd.cell? ⟨b8, 0, none⟩ = some (.bool x.m) ∧ wd.cell? ⟨b8, 1, none⟩ = some (.slice x.p x.k x.c) ∧ wd.cell? ⟨b9, 0, none⟩ = some (.bool mm) ∧ wd.cell? ⟨b9, 1, none⟩ = some (.slice p' N N) ∧
    BackOk wd x p' N mm ∧ Below wc.heap.size wc wd

/-- Behind a step that read a text. -/
def Parsed (o : OpR) (code : Int) (R : Nat → Reg) : Prop :=
  o.k = 1 → code = 0 → Digs (strip (tx o.s)).2 ∧ o.s.size ≤ 576 ∧ ∃ r : Nat, o.d = r ∧ r < 8 ∧ nl (R r).zs (R r).k = (R r).k ∧ pv (R r).zs (R r).k = dval (strip (tx o.s)).2 ∧ (R r).m = ((strip (tx o.s)).1 && decide (0 < (R r).k))
end Go.Proofs.Qxb6500872aDoor
