import Derived.Test.Qxb6500872aDoorWr
set_option linter.unusedVariables false
namespace Go.Proofs.Qxb6500872aDoor
open Go.RowKit

/-- A register. -/
structure Reg where
  m : Bool
  p : Option Addr
  k : Nat
  c : Nat
  zs : List Int

/-- One register in the machine's block. -/
def RegAt (w : World) (B K r : Nat) (x : Reg) : Prop :=
  w.cell? ⟨B, r * 2, none⟩ = some (.bool x.m) ∧ w.cell? ⟨B, r * 2 + 1, none⟩ = some (.slice x.p x.k x.c) ∧ w.frozen? ⟨B, r * 2, none⟩ = false ∧ w.frozen? ⟨B, r * 2 + 1, none⟩ = false ∧
    Limbs w x.p x.k x.c x.zs ∧ x.k ≤ K

/-- The machine. -/
def Regs (w : World) (B K : Nat) (R : Nat → Reg) : Prop := ∀ r, r < 8 → RegAt w B K r (R r)

/-- All but one block stays. -/
structure But (B : Nat) (w w' : World) : Prop where
  os : w'.os = w.os
  tape : w'.tape = w.tape
  output : w'.output = w.output
  size : w.heap.size ≤ w'.heap.size
  block : ∀ k, k < w.heap.size → k ≠ B → w'.heap[k]? = w.heap[k]?

theorem But.of_below {B : Nat} {w w' : World} (h : Below w.heap.size w w') : But B w w' := ⟨h.os, h.tape, h.output, h.size, fun k hk _ => h.block k hk⟩
theorem But.trans {B : Nat} {w w1 w2 : World} (h : But B w w1) (h' : But B w1 w2) : But B w w2 :=
  ⟨h'.os.trans h.os, h'.tape.trans h.tape, h'.output.trans h.output, Nat.le_trans h.size h'.size, fun k hk hB => (h'.block k (Nat.lt_of_lt_of_le hk h.size) hB).trans (h.block k hk hB)⟩
theorem But.set {B o : Nat} {w : World} (v : Value) : But B w (w.setCell ⟨B, o, none⟩ v) := by
  have h := (Wrote.refl B o (o + 1) w).setCell (o := o) (Nat.le_refl _) (Nat.lt_succ_self _) v
  exact ⟨h.os, h.tape, h.output, Nat.le_of_eq h.size.symm, fun k _ hB => h.block k hB⟩

/-- The machine stays where nothing old is written. -/
theorem Regs.below {w w' : World} {B K : Nat} {R : Nat → Reg} (h : Regs w B K R) (hb : Below w.heap.size w w') : Regs w' B K R := fun r hr => by
  obtain ⟨h0, h1, f0, f1, hl, hk⟩ := h r hr
  have hlt : B < w.heap.size := World.block_lt_of_cell? _ _ h0
  exact ⟨cell_later hb h0, cell_later hb h1, (hb.frozen (p := ⟨B, r * 2, none⟩) hlt).trans f0, (hb.frozen (p := ⟨B, r * 2 + 1, none⟩) hlt).trans f1, hl.below hb, hk⟩
theorem Regs.get {w : World} {B K r : Nat} {R : Nat → Reg} (h : Regs w B K R) (hr : r < 8) :
    ∃ m p k c zs, w.cell? ⟨B, r * 2, none⟩ = some (.bool m) ∧ w.cell? ⟨B, r * 2 + 1, none⟩ = some (.slice p k c) ∧ Limbs w p k c zs ∧ k ≤ K := by
  obtain ⟨h0, h1, f0, f1, hl, hk⟩ := h r hr
  exact ⟨_, _, _, _, _, h0, h1, hl, hk⟩
theorem Regs.free {w : World} {B K r : Nat} {R : Nat → Reg} (h : Regs w B K R) (hr : r < 8) :
    ∃ m p k c, w.cell? ⟨B, r * 2, none⟩ = some (.bool m) ∧ w.cell? ⟨B, r * 2 + 1, none⟩ = some (.slice p k c) ∧ w.frozen? ⟨B, r * 2, none⟩ = false ∧ w.frozen? ⟨B, r * 2 + 1, none⟩ = false := by
  obtain ⟨h0, h1, f0, f1, hl, hk⟩ := h r hr
  exact ⟨_, _, _, _, h0, h1, f0, f1⟩
theorem Regs.mono {w : World} {B K K' : Nat} {R : Nat → Reg} (h : Regs w B K R) (hk : K ≤ K') : Regs w B K' R := fun r hr => by
  obtain ⟨h0, h1, f0, f1, hl, hk'⟩ := h r hr
  exact ⟨h0, h1, f0, f1, hl, by omega⟩

def putReg (R : Nat → Reg) (r0 : Nat) (x : Reg) : Nat → Reg := fun r => if r = r0 then x else R r

/-- A register, stored. -/
theorem Regs.put {w : World} {B K K' r0 : Nat} {R : Nat → Reg} {x : Reg} (h : Regs w B K R) (hr : r0 < 8) (hz : Limbs w x.p x.k x.c x.zs) (hk : x.k ≤ K') (hK : K ≤ K') :
    Regs ((w.setCell ⟨B, r0 * 2, none⟩ (.bool x.m)).setCell ⟨B, r0 * 2 + 1, none⟩ (.slice x.p x.k x.c)) B K' (putReg R r0 x) := fun r hr' => by
  obtain ⟨h0, h1, f0, f1, hl, _⟩ := h r0 hr
  obtain ⟨h0', h1', f0', f1', hl', hk'⟩ := h r hr'
  have e1 : (w.setCell ⟨B, r0 * 2, none⟩ (.bool x.m)).cell? ⟨B, r0 * 2 + 1, none⟩ = some (.slice (R r0).p (R r0).k (R r0).c) := by
    rw [World.cell?_setCell_other _ _ _ _ (by simp)]; exact h1
  have hL : ∀ {a : Option Addr} {n c : Nat} {zs : List Int}, Limbs w a n c zs → Limbs ((w.setCell ⟨B, r0 * 2, none⟩ (.bool x.m)).setCell ⟨B, r0 * 2 + 1, none⟩ (.slice x.p x.k x.c)) a n c zs := fun hl =>
    (hl.store h0 (fun _ e => by cases e) _).store e1 (fun _ e => by cases e) _
  by_cases hrr : r = r0
  · subst hrr
    refine ⟨?_, ?_, by simpa using f0, by simpa using f1, ?_⟩
    · rw [World.cell?_setCell_other _ _ _ _ (by simp), World.cell?_setCell_same _ _ _ h0]; simp [putReg]
    · rw [World.cell?_setCell_same _ _ _ e1]; simp [putReg]
    · simp only [putReg, if_pos]
      exact ⟨hL hz, hk⟩
  · refine ⟨?_, ?_, by simpa using f0', by simpa using f1', ?_⟩
    · rw [World.cell?_setCell_other _ _ _ _ (by simp <;> omega), World.cell?_setCell_other _ _ _ _ (by simp <;> omega), h0']; simp [putReg, hrr]
    · rw [World.cell?_setCell_other _ _ _ _ (by simp <;> omega), World.cell?_setCell_other _ _ _ _ (by simp <;> omega), h1']; simp [putReg, hrr]
    · simp only [putReg, if_neg hrr]
      exact ⟨hL hl', by omega⟩

/-- What a step hands back. -/
def StepPost (w : World) (B K : Nat) (k d : Int) (s : ByteArray) (e : Ending) (w' : World) : Prop :=
  ∃ code c1 s2 v3 b4 n5, e = .returned (.agg #[.int .i64 code, .int .i64 c1, .string s2, .int .i64 v3, .bool b4, .int .i64 n5]) ∧
    (∃ R', Regs w' B (K + 1) R' ∧ (k = 1 → code = 0 → Digs (strip (tx s)).2 ∧ s.size ≤ 576 ∧ ∃ r : Nat, d = r ∧ r < 8 ∧ nl (R' r).zs (R' r).k = (R' r).k ∧ pv (R' r).zs (R' r).k = dval (strip (tx s)).2 ∧ (R' r).m = ((strip (tx s)).1 && decide (0 < (R' r).k)))) ∧ But B w w'

/-- The two blocks at a step's start. -/
structure Start (w W : World) (k d d2 a b wd : Int) (ng : Bool) (lp : Option Addr) (ln lc : Nat) (s : ByteArray) : Prop where
  bel : Below w.heap.size w W
  siz : W.heap.size = w.heap.size + 2
  q0 : W.cell? ⟨w.heap.size, 0, none⟩ = some (.int .i64 k)
  q1 : W.cell? ⟨w.heap.size, 1, none⟩ = some (.int .i64 d)
  q2 : W.cell? ⟨w.heap.size, 2, none⟩ = some (.int .i64 d2)
  q3 : W.cell? ⟨w.heap.size, 3, none⟩ = some (.int .i64 a)
  q4 : W.cell? ⟨w.heap.size, 4, none⟩ = some (.int .i64 b)
  q5 : W.cell? ⟨w.heap.size, 5, none⟩ = some (.bool ng)
  q6 : W.cell? ⟨w.heap.size, 6, none⟩ = some (.slice lp ln lc)
  q7 : W.cell? ⟨w.heap.size, 7, none⟩ = some (.string s)
  q8 : W.cell? ⟨w.heap.size, 8, none⟩ = some (.int .i64 wd)
  z0 : W.cell? ⟨w.heap.size + 1, 0, none⟩ = some (.int .i64 0)
  z1 : W.cell? ⟨w.heap.size + 1, 1, none⟩ = some (.int .i64 0)
  z2 : W.cell? ⟨w.heap.size + 1, 2, none⟩ = some (.string ⟨#[]⟩)
  z3 : W.cell? ⟨w.heap.size + 1, 3, none⟩ = some (.int .i64 0)
  z4 : W.cell? ⟨w.heap.size + 1, 4, none⟩ = some (.bool false)
  z5 : W.cell? ⟨w.heap.size + 1, 5, none⟩ = some (.int .i64 0)
  fz : ∀ i, W.frozen? ⟨w.heap.size + 1, i, none⟩ = false

theorem Regs.far {w : World} {B K : Nat} {R : Nat → Reg} (h : Regs w B K R) {q : Addr} {v : Value} (hq : w.cell? q = some v) (hv : ∀ z, v ≠ .int .u32 z) (hB : q.block ≠ B) (u : Value) : Regs (w.setCell q u) B K R := fun r hr => by
  obtain ⟨h0, h1, f0, f1, hl, hk⟩ := h r hr
  refine ⟨?_, ?_, by simpa using f0, by simpa using f1, hl.store hq hv u, hk⟩
  · rw [World.cell?_setCell_far _ _ _ _ hB]; exact h0
  · rw [World.cell?_setCell_far _ _ _ _ hB]; exact h1
theorem But.far {B : Nat} {w W : World} (h : But B w W) {q : Addr} (hq : w.heap.size ≤ q.block) (u : Value) : But B w (W.setCell q u) := by
  refine ⟨h.os, h.tape, h.output, by simpa using h.size, fun k hk hB => ?_⟩
  rw [← h.block k hk hB]
  simp only [World.setCell, Array.getElem?_modify]
  rw [if_neg (by omega)]

/-- The answer, stored. -/
theorem out_store {w W : World} {B K : Nat} {R : Nat → Reg} {i0 i1 i3 i5 : Int} {t2 : ByteArray} {b4 : Bool} (h : Regs W B K R) (hb : But B w W) (hlt : B < w.heap.size)
    (z0 : W.cell? ⟨w.heap.size + 1, 0, none⟩ = some (.int .i64 i0)) (z1 : W.cell? ⟨w.heap.size + 1, 1, none⟩ = some (.int .i64 i1)) (z2 : W.cell? ⟨w.heap.size + 1, 2, none⟩ = some (.string t2))
    (z3 : W.cell? ⟨w.heap.size + 1, 3, none⟩ = some (.int .i64 i3)) (z4 : W.cell? ⟨w.heap.size + 1, 4, none⟩ = some (.bool b4)) (z5 : W.cell? ⟨w.heap.size + 1, 5, none⟩ = some (.int .i64 i5)) (u0 u1 u2 u3 u4 u5 : Value) :
    Regs ((((((W.setCell ⟨w.heap.size + 1, 0, none⟩ u0).setCell ⟨w.heap.size + 1, 1, none⟩ u1).setCell ⟨w.heap.size + 1, 2, none⟩ u2).setCell ⟨w.heap.size + 1, 3, none⟩ u3).setCell ⟨w.heap.size + 1, 4, none⟩ u4).setCell ⟨w.heap.size + 1, 5, none⟩ u5) B K R ∧
    But B w ((((((W.setCell ⟨w.heap.size + 1, 0, none⟩ u0).setCell ⟨w.heap.size + 1, 1, none⟩ u1).setCell ⟨w.heap.size + 1, 2, none⟩ u2).setCell ⟨w.heap.size + 1, 3, none⟩ u3).setCell ⟨w.heap.size + 1, 4, none⟩ u4).setCell ⟨w.heap.size + 1, 5, none⟩ u5) := by
  have hB : w.heap.size + 1 ≠ B := by omega
  have e : ∀ (i j : Nat) (W : World) (u v : Value), i ≠ j → W.cell? ⟨w.heap.size + 1, j, none⟩ = some v → (W.setCell ⟨w.heap.size + 1, i, none⟩ u).cell? ⟨w.heap.size + 1, j, none⟩ = some v := fun i j W u v hij hv => by
    rw [World.cell?_setCell_other _ _ _ _ (fun h => hij (by simpa using congrArg Addr.off h))]; exact hv
  constructor
  · exact (((((h.far z0 (fun _ e => by cases e) hB u0).far (e 0 1 _ _ _ (by decide) z1) (fun _ e => by cases e) hB u1).far (e 1 2 _ _ _ (by decide) (e 0 2 _ _ _ (by decide) z2)) (fun _ e => by cases e) hB u2).far
      (e 2 3 _ _ _ (by decide) (e 1 3 _ _ _ (by decide) (e 0 3 _ _ _ (by decide) z3))) (fun _ e => by cases e) hB u3).far (e 3 4 _ _ _ (by decide) (e 2 4 _ _ _ (by decide) (e 1 4 _ _ _ (by decide) (e 0 4 _ _ _ (by decide) z4)))) (fun _ e => by cases e) hB u4).far
      (e 4 5 _ _ _ (by decide) (e 3 5 _ _ _ (by decide) (e 2 5 _ _ _ (by decide) (e 1 5 _ _ _ (by decide) (e 0 5 _ _ _ (by decide) z5))))) (fun _ e => by cases e) hB u5
  · exact (((((hb.far (by simp) u0).far (by simp) u1).far (by simp) u2).far (by simp) u3).far (by simp) u4).far (by simp) u5

theorem start_of (w W : World) (k d d2 a b wd : Int) (ng : Bool) (lp : Option Addr) (ln lc : Nat) (s : ByteArray)
    (hW : W = (w.alloc (.cells #[.int .i64 k, .int .i64 d, .int .i64 d2, .int .i64 a, .int .i64 b, .bool ng, .slice lp ln lc, .string s, .int .i64 wd] 34)).alloc (.cells #[.int .i64 0, .int .i64 0, .string ⟨#[]⟩, .int .i64 0, .bool false, .int .i64 0] 37)) :
    Start w W k d d2 a b wd ng lp ln lc s := by
  subst hW
  refine ⟨two_alloc _ _ _, by simp, ?_, ?_, ?_, ?_, ?_, ?_, ?_, ?_, ?_, ?_, ?_, ?_, ?_, ?_, ?_, ?_⟩ <;> simp

theorem Start.below {w W W' : World} {k d d2 a b wd : Int} {ng : Bool} {lp : Option Addr} {ln lc : Nat} {s : ByteArray} (h : Start w W k d d2 a b wd ng lp ln lc s) (hb : Below W.heap.size W W') :
    W'.cell? ⟨w.heap.size, 0, none⟩ = some (.int .i64 k) ∧ W'.cell? ⟨w.heap.size, 1, none⟩ = some (.int .i64 d) ∧ W'.cell? ⟨w.heap.size, 2, none⟩ = some (.int .i64 d2) ∧ W'.cell? ⟨w.heap.size, 3, none⟩ = some (.int .i64 a) ∧
    W'.cell? ⟨w.heap.size, 4, none⟩ = some (.int .i64 b) ∧ W'.cell? ⟨w.heap.size, 5, none⟩ = some (.bool ng) ∧ W'.cell? ⟨w.heap.size, 6, none⟩ = some (.slice lp ln lc) ∧ W'.cell? ⟨w.heap.size, 7, none⟩ = some (.string s) ∧ W'.cell? ⟨w.heap.size, 8, none⟩ = some (.int .i64 wd) ∧
    W'.cell? ⟨w.heap.size + 1, 0, none⟩ = some (.int .i64 0) ∧ W'.cell? ⟨w.heap.size + 1, 1, none⟩ = some (.int .i64 0) ∧ W'.cell? ⟨w.heap.size + 1, 2, none⟩ = some (.string ⟨#[]⟩) ∧ W'.cell? ⟨w.heap.size + 1, 3, none⟩ = some (.int .i64 0) ∧
    W'.cell? ⟨w.heap.size + 1, 4, none⟩ = some (.bool false) ∧ W'.cell? ⟨w.heap.size + 1, 5, none⟩ = some (.int .i64 0) ∧ (∀ i, W'.frozen? ⟨w.heap.size + 1, i, none⟩ = false) :=
  ⟨cell_later hb h.q0, cell_later hb h.q1, cell_later hb h.q2, cell_later hb h.q3, cell_later hb h.q4, cell_later hb h.q5, cell_later hb h.q6, cell_later hb h.q7, cell_later hb h.q8,
    cell_later hb h.z0, cell_later hb h.z1, cell_later hb h.z2, cell_later hb h.z3, cell_later hb h.z4, cell_later hb h.z5, fun i => (hb.frozen (p := ⟨w.heap.size + 1, i, none⟩) (by rw [h.siz]; simp)).trans (h.fz i)⟩

/-- A register stored, then an empty answer. -/
theorem put_end {w W w4 : World} {k d d2 a b wd : Int} {ng : Bool} {lp : Option Addr} {ln lc : Nat} {s : ByteArray} (hs : Start w W k d d2 a b wd ng lp ln lc s) {B K : Nat} {R : Nat → Reg} (hlt : B < w.heap.size) {rd : Nat} (hrd : rd < 8)
    (hR : Regs w4 B K R) (hb : But B w w4) (z0 : w4.cell? ⟨w.heap.size + 1, 0, none⟩ = some (.int .i64 0)) (z1 : w4.cell? ⟨w.heap.size + 1, 1, none⟩ = some (.int .i64 0)) (z2 : w4.cell? ⟨w.heap.size + 1, 2, none⟩ = some (.string ⟨#[]⟩))
    (z3 : w4.cell? ⟨w.heap.size + 1, 3, none⟩ = some (.int .i64 0)) (z4 : w4.cell? ⟨w.heap.size + 1, 4, none⟩ = some (.bool false)) (z5 : w4.cell? ⟨w.heap.size + 1, 5, none⟩ = some (.int .i64 0))
    (m : Bool) (p : Option Addr) (n c : Nat) (zs : List Int) (hz : Limbs w4 p n c zs) {K' : Nat} (hn : n ≤ K') (hK : K ≤ K') (W5 : World) (hW5 : W5 = (w4.setCell ⟨B, rd * 2, none⟩ (.bool m)).setCell ⟨B, rd * 2 + 1, none⟩ (.slice p n c)) :
    W5.cell? ⟨w.heap.size + 1, 0, none⟩ = some (.int .i64 0) ∧ W5.cell? ⟨w.heap.size + 1, 1, none⟩ = some (.int .i64 0) ∧ W5.cell? ⟨w.heap.size + 1, 2, none⟩ = some (.string ⟨#[]⟩) ∧ W5.cell? ⟨w.heap.size + 1, 3, none⟩ = some (.int .i64 0) ∧
    W5.cell? ⟨w.heap.size + 1, 4, none⟩ = some (.bool false) ∧ W5.cell? ⟨w.heap.size + 1, 5, none⟩ = some (.int .i64 0) ∧ Regs W5 B K' (putReg R rd ⟨m, p, n, c, zs⟩) ∧ But B w W5 := by
  subst hW5
  have hne : B ≠ w.heap.size + 1 := by omega
  exact ⟨far2 z0 hne hne, far2 z1 hne hne, far2 z2 hne hne, far2 z3 hne hne, far2 z4 hne hne, far2 z5 hne hne, hR.put (x := ⟨m, p, n, c, zs⟩) hrd hz hn hK, hb.trans ((But.set _).trans (But.set _))⟩

theorem neg_full {m : Bool} {a : Option Addr} {n c : Nat} {zs : List Int} {w : World} (h : Limbs w a n c zs) :
    Calls Tryd.prog 21 #[.agg #[.bool m, .slice a n c]] w fun e w' => (∃ m' p' k us, e = .returned (.agg #[.bool m', .slice p' k k]) ∧ Limbs w' p' k k us ∧ k ≤ n) ∧ Below w.heap.size w w' :=
  (neg_any h).mono fun e w' ⟨he, hb⟩ => ⟨⟨_, _, _, _, he, h.norm.below hb, nl_le _ _⟩, hb⟩
theorem abs_full {m : Bool} {a : Option Addr} {n c : Nat} {zs : List Int} {w : World} (h : Limbs w a n c zs) :
    Calls Tryd.prog 22 #[.agg #[.bool m, .slice a n c]] w fun e w' => (∃ m' p' k us, e = .returned (.agg #[.bool m', .slice p' k k]) ∧ Limbs w' p' k k us ∧ k ≤ n) ∧ Below w.heap.size w w' :=
  (abs_any h).mono fun e w' ⟨he, hb⟩ => ⟨⟨_, _, _, _, he, h.norm.below hb, nl_le _ _⟩, hb⟩

theorem wrap_small {n : Int} (h : 0 ≤ n ∧ n < 1000000) : IntKind.i64.wrap n = n := by
  have e1 : (2 ^ IntKind.i64.bits : Int) = 18446744073709551616 := by decide
  have e : n % (2 ^ IntKind.i64.bits : Int) = n := Int.emod_eq_of_lt h.1 (by omega)
  have e2 : (2 ^ (IntKind.i64.bits - 1) : Int) = 9223372036854775808 := by decide
  simp only [IntKind.wrap, e, e2]
  rw [if_neg]
  simp
  omega
end Go.Proofs.Qxb6500872aDoor
