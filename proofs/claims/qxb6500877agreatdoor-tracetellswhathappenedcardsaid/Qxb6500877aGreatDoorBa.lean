/-
  The words of this seat's walks: what a call may have written ('Mut'); the scheduler's part of the machine's block.
-/
import Derived.Test.Qxb6500877aGreatDoorRows
import Derived.WalkKit
import Derived.WalkSpells
import Derived.WalkLawsBesides
import Derived.Deep.QuietTactic
import Derived.BigQuiet
import Derived.Deep.RegionWith
import Derived.Deep.RegionHeld3
import Derived.Deep.DeepCutAuto
import Derived.Deep.LoopGhost
set_option linter.unusedVariables false
set_option linter.unusedSimpArgs false
namespace Go.Proofs.Qxb6500877aGreatDoor
open Go.RowKit

theorem chain {W w1 w2 : World} (h1 : Below W.heap.size W w1) (h2 : Below w1.heap.size w1 w2) : Below W.heap.size W w2 := h1.trans (h2.mono h1.size)
theorem one_alloc (w : World) (o : Obj) : Below w.heap.size w (w.alloc o) := (Below.refl _ _).alloc (Nat.le_refl _) _

/-- Of what was there, only cells lo .. hi-1 of block b have been written. -/
structure Mut (b lo hi : Nat) (w w' : World) : Prop where
  os : w'.os = w.os
  tape : w'.tape = w.tape
  output : w'.output = w.output
  size : w.heap.size ≤ w'.heap.size
  block : ∀ k, k < w.heap.size → k ≠ b → w'.heap[k]? = w.heap[k]?
  frz : ∀ o, w'.frozen? ⟨b, o, none⟩ = w.frozen? ⟨b, o, none⟩
  cell : ∀ o, ¬ (lo ≤ o ∧ o < hi) → w'.cell? ⟨b, o, none⟩ = w.cell? ⟨b, o, none⟩

theorem Mut.refl (b lo hi : Nat) (w : World) : Mut b lo hi w w := ⟨rfl, rfl, rfl, Nat.le_refl _, fun _ _ _ => rfl, fun _ => rfl, fun _ _ => rfl⟩
theorem Mut.trans {b lo hi : Nat} {x y z : World} (h : Mut b lo hi x y) (k : Mut b lo hi y z) : Mut b lo hi x z :=
  ⟨k.os.trans h.os, k.tape.trans h.tape, k.output.trans h.output, Nat.le_trans h.size k.size, fun i hi hb => (k.block i (Nat.lt_of_lt_of_le hi h.size) hb).trans (h.block i hi hb), fun o => (k.frz o).trans (h.frz o), fun o ho => (k.cell o ho).trans (h.cell o ho)⟩
theorem Mut.mono {b lo hi lo' hi' : Nat} {w w' : World} (h : Mut b lo hi w w') (h1 : lo' ≤ lo) (h2 : hi ≤ hi') : Mut b lo' hi' w w' :=
  ⟨h.os, h.tape, h.output, h.size, h.block, h.frz, fun o ho => h.cell o (by omega)⟩
theorem Mut.drew {b lo hi : Nat} {w w' : World} (h : Mut b lo hi w w') : Mut b lo hi w w'.drew := ⟨h.os, h.tape, h.output, h.size, h.block, h.frz, h.cell⟩
theorem Mut.drewN {b lo hi : Nat} {w w' : World} (h : Mut b lo hi w w') (n : Nat) : Mut b lo hi w (w'.drewN n) := ⟨h.os, h.tape, h.output, h.size, h.block, h.frz, h.cell⟩
theorem Mut.setCell {b lo hi : Nat} {w w' : World} (h : Mut b lo hi w w') {o : Nat} (h1 : lo ≤ o) (h2 : o < hi) (v : Value) : Mut b lo hi w (w'.setCell ⟨b, o, none⟩ v) :=
  h.trans ⟨rfl, rfl, rfl, by simp [World.setCell], fun k _ hk => Below.heap_setCell _ _ _ _ hk, fun p => World.frozen?_setCell _ _ _ _, fun o' ho => World.cell?_setCell_other _ _ _ _ (fun e => ho (by cases e; exact ⟨h1, h2⟩))⟩
theorem Mut.of_below {b lo hi : Nat} {w w' : World} (h : Below w.heap.size w w') (hb : b < w.heap.size) : Mut b lo hi w w' :=
  ⟨h.os, h.tape, h.output, h.size, fun k hk _ => h.block k hk, fun o => h.frozen (p := ⟨b, o, none⟩) hb, fun o _ => h.cell (p := ⟨b, o, none⟩) hb⟩

/-- A row of the task table. -/
structure TaskN where
  st : Int
  home : Int
  band : Int
  prev : Int
  next : Int

/-- The scheduler. -/
structure Sched where
  tk : Nat → TaskN
  hd : Nat → Nat → Int
  tl : Nat → Nat → Int
  fl : Nat → Int
  qn : Nat → Int
  cur : Nat → Int
  ld : Nat → Int

def taskCell (n : TaskN) : Nat → Value
  | 0 => .int .u8 n.st
  | 1 => .int .i64 n.home
  | 2 => .int .i8 n.band
  | 3 => .int .i8 n.prev
  | _ => .int .i8 n.next

def Sched.qCell (s : Sched) (c j : Nat) : Value :=
  if j < 8 then (if j % 2 = 0 then .int .i8 (s.hd c (j / 2)) else .int .i8 (s.tl c (j / 2))) else if j = 8 then .int .u8 (s.fl c) else .int .i64 (s.qn c)

/-- The scheduler's cells. -/
def Sched.enc (s : Sched) (o : Nat) : Value :=
  if o < 80 then taskCell (s.tk (o / 5)) (o % 5) else if o < 120 then s.qCell ((o - 80) / 10) ((o - 80) % 10) else if o < 124 then .int .i64 (s.cur (o - 120)) else .int .i64 (s.ld (o - 124))

structure SchedAt (w : World) (B : Nat) (s : Sched) : Prop where
  cell : ∀ o, o < 128 → w.cell? ⟨B, 6596 + o, none⟩ = some (s.enc o)
  frz : ∀ o, w.frozen? ⟨B, o, none⟩ = false

theorem SchedAt.mut {w w' : World} {B lo hi : Nat} {s : Sched} (h : SchedAt w B s) (m : Mut B lo hi w w') (hd : hi ≤ 6596 ∨ 6724 ≤ lo) : SchedAt w' B s :=
  ⟨fun o ho => by rw [m.cell _ (by omega)]; exact h.cell o ho, fun o => by rw [m.frz]; exact h.frz o⟩
theorem SchedAt.drew {w : World} {B : Nat} {s : Sched} (h : SchedAt w B s) : SchedAt w.drew B s := ⟨h.cell, h.frz⟩

theorem SchedAt.put {w : World} {B : Nat} {s s' : Sched} (h : SchedAt w B s) (a : Nat) (ha : a < 128) (v : Value) (he : ∀ o, o < 128 → s'.enc o = if o = a then v else s.enc o) :
    SchedAt (w.setCell ⟨B, 6596 + a, none⟩ v) B s' := by
  refine ⟨fun o ho => ?_, fun o => by simpa using h.frz o⟩
  rw [he o ho]
  by_cases hoa : o = a
  · subst hoa
    rw [if_pos rfl]
    exact World.cell?_setCell_same _ _ _ (h.cell o ho)
  · rw [if_neg hoa, World.cell?_setCell_other _ _ _ _ (by simp <;> omega)]
    exact h.cell o ho

theorem SchedAt.task {w : World} {B : Nat} {s : Sched} (h : SchedAt w B s) {t : Nat} (ht : t < 16) :
    w.cell? ⟨B, 6596 + t * 5, none⟩ = some (.int .u8 (s.tk t).st) ∧ w.cell? ⟨B, 6596 + t * 5 + 1, none⟩ = some (.int .i64 (s.tk t).home) ∧ w.cell? ⟨B, 6596 + t * 5 + 2, none⟩ = some (.int .i8 (s.tk t).band) ∧
    w.cell? ⟨B, 6596 + t * 5 + 3, none⟩ = some (.int .i8 (s.tk t).prev) ∧ w.cell? ⟨B, 6596 + t * 5 + 4, none⟩ = some (.int .i8 (s.tk t).next) := by
  have key : ∀ j, j < 5 → w.cell? ⟨B, 6596 + t * 5 + j, none⟩ = some (taskCell (s.tk t) j) := fun j hj => by
    have := h.cell (t * 5 + j) (by omega)
    rw [Nat.add_assoc, this, Sched.enc, if_pos (by omega), show (t * 5 + j) / 5 = t by omega, show (t * 5 + j) % 5 = j by omega]
  exact ⟨key 0 (by omega), key 1 (by omega), key 2 (by omega), key 3 (by omega), key 4 (by omega)⟩

theorem SchedAt.queue {w : World} {B : Nat} {s : Sched} (h : SchedAt w B s) {c : Nat} (hc : c < 4) :
    (∀ k, k < 4 → w.cell? ⟨B, 6676 + c * 10 + k * 2, none⟩ = some (.int .i8 (s.hd c k)) ∧ w.cell? ⟨B, 6676 + c * 10 + k * 2 + 1, none⟩ = some (.int .i8 (s.tl c k))) ∧
    w.cell? ⟨B, 6676 + c * 10 + 8, none⟩ = some (.int .u8 (s.fl c)) ∧ w.cell? ⟨B, 6676 + c * 10 + 9, none⟩ = some (.int .i64 (s.qn c)) := by
  have key : ∀ j, j < 10 → w.cell? ⟨B, 6676 + c * 10 + j, none⟩ = some (s.qCell c j) := fun j hj => by
    have := h.cell (80 + (c * 10 + j)) (by omega)
    rw [show 6676 + c * 10 + j = 6596 + (80 + (c * 10 + j)) by omega, this, Sched.enc, if_neg (by omega), if_pos (by omega), show (80 + (c * 10 + j) - 80) / 10 = c by omega, show (80 + (c * 10 + j) - 80) % 10 = j by omega]
  refine ⟨fun k hk => ⟨?_, ?_⟩, ?_, ?_⟩
  · rw [key (k * 2) (by omega), Sched.qCell, if_pos (by omega), if_pos (by omega), show k * 2 / 2 = k by omega]
  · rw [Nat.add_assoc, key (k * 2 + 1) (by omega), Sched.qCell, if_pos (by omega), if_neg (by omega), show (k * 2 + 1) / 2 = k by omega]
  · rw [key 8 (by omega)]; rfl
  · rw [key 9 (by omega)]; rfl

theorem SchedAt.core {w : World} {B : Nat} {s : Sched} (h : SchedAt w B s) {c : Nat} (hc : c < 4) :
    w.cell? ⟨B, 6716 + c, none⟩ = some (.int .i64 (s.cur c)) ∧ w.cell? ⟨B, 6720 + c, none⟩ = some (.int .i64 (s.ld c)) := by
  constructor
  · have := h.cell (120 + c) (by omega)
    rw [show 6716 + c = 6596 + (120 + c) by omega, this, Sched.enc, if_neg (by omega), if_neg (by omega), if_pos (by omega), show 120 + c - 120 = c by omega]
  · have := h.cell (124 + c) (by omega)
    rw [show 6720 + c = 6596 + (124 + c) by omega, this, Sched.enc, if_neg (by omega), if_neg (by omega), if_neg (by omega), show 124 + c - 124 = c by omega]

/-! ### One field turned -/
def Sched.setTk (s : Sched) (t : Nat) (n : TaskN) : Sched := { s with tk := fun i => if i = t then n else s.tk i }
def Sched.setHd (s : Sched) (c k : Nat) (v : Int) : Sched := { s with hd := fun i j => if i = c ∧ j = k then v else s.hd i j }
def Sched.setTl (s : Sched) (c k : Nat) (v : Int) : Sched := { s with tl := fun i j => if i = c ∧ j = k then v else s.tl i j }
def Sched.setFl (s : Sched) (c : Nat) (v : Int) : Sched := { s with fl := fun i => if i = c then v else s.fl i }
def Sched.setQn (s : Sched) (c : Nat) (v : Int) : Sched := { s with qn := fun i => if i = c then v else s.qn i }
def Sched.setCur (s : Sched) (c : Nat) (v : Int) : Sched := { s with cur := fun i => if i = c then v else s.cur i }
def Sched.setLd (s : Sched) (c : Nat) (v : Int) : Sched := { s with ld := fun i => if i = c then v else s.ld i }

def Sched.pSt (s : Sched) (t : Nat) (v : Int) : Sched := s.setTk t { s.tk t with st := v }
def Sched.pHome (s : Sched) (t : Nat) (v : Int) : Sched := s.setTk t { s.tk t with home := v }
def Sched.pBand (s : Sched) (t : Nat) (v : Int) : Sched := s.setTk t { s.tk t with band := v }
def Sched.pPrev (s : Sched) (t : Nat) (v : Int) : Sched := s.setTk t { s.tk t with prev := v }
def Sched.pNext (s : Sched) (t : Nat) (v : Int) : Sched := s.setTk t { s.tk t with next := v }

theorem SchedAt.putTk {w : World} {B : Nat} {s : Sched} (h : SchedAt w B s) {t : Nat} (ht : t < 16) (n : TaskN) (j : Nat) (hj : j < 5) (v : Value) (hn : ∀ i, i < 5 → taskCell n i = if i = j then v else taskCell (s.tk t) i) :
    SchedAt (w.setCell ⟨B, 6596 + t * 5 + j, none⟩ v) B (s.setTk t n) := by
  rw [Nat.add_assoc]
  refine h.put (t * 5 + j) (by omega) v fun o ho => ?_
  by_cases h80 : o < 80
  · simp only [Sched.enc, if_pos h80, Sched.setTk]
    by_cases hot : o / 5 = t
    · rw [if_pos hot, hn _ (by omega)]
      by_cases hoj : o % 5 = j
      · rw [if_pos hoj, if_pos (by omega)]
      · rw [if_neg hoj, if_neg (by omega), hot]
    · rw [if_neg hot, if_neg (by omega)]
  · rw [if_neg (by omega)]
    simp only [Sched.enc, if_neg h80, Sched.setTk, Sched.qCell]
theorem SchedAt.putSt {w : World} {B : Nat} {s : Sched} (h : SchedAt w B s) {t : Nat} (ht : t < 16) (v : Int) : SchedAt (w.setCell ⟨B, 6596 + t * 5, none⟩ (.int .u8 v)) B (s.pSt t v) :=
  h.putTk ht _ 0 (by omega) _ (fun i hi => by
    have : i = 0 ∨ i = 1 ∨ i = 2 ∨ i = 3 ∨ i = 4 := by omega
    rcases this with rfl | rfl | rfl | rfl | rfl <;> rfl)
theorem SchedAt.putHome {w : World} {B : Nat} {s : Sched} (h : SchedAt w B s) {t : Nat} (ht : t < 16) (v : Int) : SchedAt (w.setCell ⟨B, 6596 + t * 5 + 1, none⟩ (.int .i64 v)) B (s.pHome t v) :=
  h.putTk ht _ 1 (by omega) _ (fun i hi => by
    have : i = 0 ∨ i = 1 ∨ i = 2 ∨ i = 3 ∨ i = 4 := by omega
    rcases this with rfl | rfl | rfl | rfl | rfl <;> rfl)
theorem SchedAt.putBand {w : World} {B : Nat} {s : Sched} (h : SchedAt w B s) {t : Nat} (ht : t < 16) (v : Int) : SchedAt (w.setCell ⟨B, 6596 + t * 5 + 2, none⟩ (.int .i8 v)) B (s.pBand t v) :=
  h.putTk ht _ 2 (by omega) _ (fun i hi => by
    have : i = 0 ∨ i = 1 ∨ i = 2 ∨ i = 3 ∨ i = 4 := by omega
    rcases this with rfl | rfl | rfl | rfl | rfl <;> rfl)
theorem SchedAt.putPrev {w : World} {B : Nat} {s : Sched} (h : SchedAt w B s) {t : Nat} (ht : t < 16) (v : Int) : SchedAt (w.setCell ⟨B, 6596 + t * 5 + 3, none⟩ (.int .i8 v)) B (s.pPrev t v) :=
  h.putTk ht _ 3 (by omega) _ (fun i hi => by
    have : i = 0 ∨ i = 1 ∨ i = 2 ∨ i = 3 ∨ i = 4 := by omega
    rcases this with rfl | rfl | rfl | rfl | rfl <;> rfl)
theorem SchedAt.putNext {w : World} {B : Nat} {s : Sched} (h : SchedAt w B s) {t : Nat} (ht : t < 16) (v : Int) : SchedAt (w.setCell ⟨B, 6596 + t * 5 + 4, none⟩ (.int .i8 v)) B (s.pNext t v) :=
  h.putTk ht _ 4 (by omega) _ (fun i hi => by
    have : i = 0 ∨ i = 1 ∨ i = 2 ∨ i = 3 ∨ i = 4 := by omega
    rcases this with rfl | rfl | rfl | rfl | rfl <;> rfl)

theorem SchedAt.putHd {w : World} {B : Nat} {s : Sched} (h : SchedAt w B s) {c k : Nat} (hc : c < 4) (hk : k < 4) (v : Int) : SchedAt (w.setCell ⟨B, 6676 + c * 10 + k * 2, none⟩ (.int .i8 v)) B (s.setHd c k v) := by
  rw [show 6676 + c * 10 + k * 2 = 6596 + (80 + c * 10 + k * 2) by omega]
  refine h.put _ (by omega) _ fun o ho => ?_
  by_cases h80 : o < 80
  · rw [if_neg (by omega)]; simp only [Sched.enc, if_pos h80, Sched.setHd]
  · by_cases h120 : o < 120
    · simp only [Sched.enc, if_neg h80, if_pos h120, Sched.qCell, Sched.setHd]
      by_cases h8 : (o - 80) % 10 < 8
      · by_cases he : (o - 80) % 10 % 2 = 0
        · rw [if_pos h8, if_pos he, if_pos h8, if_pos he]
          by_cases hh : (o - 80) / 10 = c ∧ (o - 80) % 10 / 2 = k
          · rw [if_pos hh, if_pos (by omega)]
          · rw [if_neg hh, if_neg (by omega)]
        · rw [if_pos h8, if_neg he, if_pos h8, if_neg he, if_neg (show ¬ o = 80 + c * 10 + k * 2 by omega)]
      · rw [if_neg h8, if_neg h8, if_neg (show ¬ o = 80 + c * 10 + k * 2 by omega)]
    · rw [if_neg (by omega)]; simp only [Sched.enc, if_neg h80, if_neg h120, Sched.setHd]
theorem SchedAt.putTl {w : World} {B : Nat} {s : Sched} (h : SchedAt w B s) {c k : Nat} (hc : c < 4) (hk : k < 4) (v : Int) : SchedAt (w.setCell ⟨B, 6676 + c * 10 + k * 2 + 1, none⟩ (.int .i8 v)) B (s.setTl c k v) := by
  rw [show 6676 + c * 10 + k * 2 + 1 = 6596 + (80 + c * 10 + k * 2 + 1) by omega]
  refine h.put _ (by omega) _ fun o ho => ?_
  by_cases h80 : o < 80
  · rw [if_neg (by omega)]; simp only [Sched.enc, if_pos h80, Sched.setTl]
  · by_cases h120 : o < 120
    · simp only [Sched.enc, if_neg h80, if_pos h120, Sched.qCell, Sched.setTl]
      by_cases h8 : (o - 80) % 10 < 8
      · by_cases he : (o - 80) % 10 % 2 = 0
        · rw [if_pos h8, if_pos he, if_pos h8, if_pos he, if_neg (show ¬ o = 80 + c * 10 + k * 2 + 1 by omega)]
        · rw [if_pos h8, if_neg he, if_pos h8, if_neg he]
          by_cases hh : (o - 80) / 10 = c ∧ (o - 80) % 10 / 2 = k
          · rw [if_pos hh, if_pos (by omega)]
          · rw [if_neg hh, if_neg (by omega)]
      · rw [if_neg h8, if_neg h8, if_neg (show ¬ o = 80 + c * 10 + k * 2 + 1 by omega)]
    · rw [if_neg (by omega)]; simp only [Sched.enc, if_neg h80, if_neg h120, Sched.setTl]
theorem SchedAt.putFl {w : World} {B : Nat} {s : Sched} (h : SchedAt w B s) {c : Nat} (hc : c < 4) (v : Int) : SchedAt (w.setCell ⟨B, 6676 + c * 10 + 8, none⟩ (.int .u8 v)) B (s.setFl c v) := by
  rw [show 6676 + c * 10 + 8 = 6596 + (80 + c * 10 + 8) by omega]
  refine h.put _ (by omega) _ fun o ho => ?_
  by_cases h80 : o < 80
  · rw [if_neg (by omega)]; simp only [Sched.enc, if_pos h80, Sched.setFl]
  · by_cases h120 : o < 120
    · simp only [Sched.enc, if_neg h80, if_pos h120, Sched.qCell, Sched.setFl]
      by_cases h8 : (o - 80) % 10 < 8
      · rw [if_pos h8, if_pos h8, if_neg (show ¬ o = 80 + c * 10 + 8 by omega)]
      · by_cases he : (o - 80) % 10 = 8
        · rw [if_neg h8, if_neg h8, if_pos he, if_pos he]
          by_cases hh : (o - 80) / 10 = c
          · rw [if_pos hh, if_pos (by omega)]
          · rw [if_neg hh, if_neg (by omega)]
        · rw [if_neg h8, if_neg h8, if_neg he, if_neg he, if_neg (show ¬ o = 80 + c * 10 + 8 by omega)]
    · rw [if_neg (by omega)]; simp only [Sched.enc, if_neg h80, if_neg h120, Sched.setFl]
theorem SchedAt.putQn {w : World} {B : Nat} {s : Sched} (h : SchedAt w B s) {c : Nat} (hc : c < 4) (v : Int) : SchedAt (w.setCell ⟨B, 6676 + c * 10 + 9, none⟩ (.int .i64 v)) B (s.setQn c v) := by
  rw [show 6676 + c * 10 + 9 = 6596 + (80 + c * 10 + 9) by omega]
  refine h.put _ (by omega) _ fun o ho => ?_
  by_cases h80 : o < 80
  · rw [if_neg (by omega)]; simp only [Sched.enc, if_pos h80, Sched.setQn]
  · by_cases h120 : o < 120
    · simp only [Sched.enc, if_neg h80, if_pos h120, Sched.qCell, Sched.setQn]
      by_cases h8 : (o - 80) % 10 < 8
      · rw [if_pos h8, if_pos h8, if_neg (show ¬ o = 80 + c * 10 + 9 by omega)]
      · by_cases he : (o - 80) % 10 = 8
        · rw [if_neg h8, if_neg h8, if_pos he, if_pos he, if_neg (show ¬ o = 80 + c * 10 + 9 by omega)]
        · rw [if_neg h8, if_neg h8, if_neg he, if_neg he]
          by_cases hh : (o - 80) / 10 = c
          · rw [if_pos hh, if_pos (by omega)]
          · rw [if_neg hh, if_neg (by omega)]
    · rw [if_neg (by omega)]; simp only [Sched.enc, if_neg h80, if_neg h120, Sched.setQn]
theorem SchedAt.putCur {w : World} {B : Nat} {s : Sched} (h : SchedAt w B s) {c : Nat} (hc : c < 4) (v : Int) : SchedAt (w.setCell ⟨B, 6716 + c, none⟩ (.int .i64 v)) B (s.setCur c v) := by
  rw [show 6716 + c = 6596 + (120 + c) by omega]
  refine h.put _ (by omega) _ fun o ho => ?_
  by_cases h80 : o < 80
  · rw [if_neg (by omega)]; simp only [Sched.enc, if_pos h80, Sched.setCur]
  · by_cases h120 : o < 120
    · rw [if_neg (by omega)]; simp only [Sched.enc, if_neg h80, if_pos h120, Sched.qCell, Sched.setCur]
    · by_cases h124 : o < 124
      · simp only [Sched.enc, if_neg h80, if_neg h120, if_pos h124, Sched.setCur]
        by_cases hh : o - 120 = c
        · rw [if_pos hh, if_pos (by omega)]
        · rw [if_neg hh, if_neg (by omega)]
      · rw [if_neg (by omega)]; simp only [Sched.enc, if_neg h80, if_neg h120, if_neg h124, Sched.setCur]
theorem SchedAt.putLd {w : World} {B : Nat} {s : Sched} (h : SchedAt w B s) {c : Nat} (hc : c < 4) (v : Int) : SchedAt (w.setCell ⟨B, 6720 + c, none⟩ (.int .i64 v)) B (s.setLd c v) := by
  rw [show 6720 + c = 6596 + (124 + c) by omega]
  refine h.put _ (by omega) _ fun o ho => ?_
  by_cases h80 : o < 80
  · rw [if_neg (by omega)]; simp only [Sched.enc, if_pos h80, Sched.setLd]
  · by_cases h120 : o < 120
    · rw [if_neg (by omega)]; simp only [Sched.enc, if_neg h80, if_pos h120, Sched.qCell, Sched.setLd]
    · by_cases h124 : o < 124
      · rw [if_neg (by omega)]; simp only [Sched.enc, if_neg h80, if_neg h120, if_pos h124, Sched.setLd]
      · simp only [Sched.enc, if_neg h80, if_neg h120, if_neg h124, Sched.setLd]
        by_cases hh : o - 124 = c
        · rw [if_pos hh, if_pos (by omega)]
        · rw [if_neg hh, if_neg (by omega)]
/-- A small number is its own wrap. -/
theorem wrap_i8 {n : Int} (h : -128 ≤ n ∧ n < 128) : IntKind.i8.wrap n = n := by
  have e1 : (2 ^ IntKind.i8.bits : Int) = 256 := by decide
  have e2 : (2 ^ (IntKind.i8.bits - 1) : Int) = 128 := by decide
  by_cases h0 : 0 ≤ n
  · have e : n % (2 ^ IntKind.i8.bits : Int) = n := Int.emod_eq_of_lt h0 (by omega)
    simp only [IntKind.wrap, e, e2]
    rw [if_neg]
    simp
    omega
  · have e : n % (2 ^ IntKind.i8.bits : Int) = n + 256 := by rw [e1]; omega
    simp only [IntKind.wrap, e, e2, e1]
    rw [if_pos]
    · omega
    · simp [IntKind.signed]; omega

theorem wrap_i64 {n : Int} (h : -9223372036854775808 ≤ n ∧ n < 9223372036854775808) : IntKind.i64.wrap n = n := by
  have e1 : (2 ^ IntKind.i64.bits : Int) = 18446744073709551616 := by decide
  have e2 : (2 ^ (IntKind.i64.bits - 1) : Int) = 9223372036854775808 := by decide
  by_cases h0 : 0 ≤ n
  · have e : n % (2 ^ IntKind.i64.bits : Int) = n := Int.emod_eq_of_lt h0 (by omega)
    simp only [IntKind.wrap, e, e2]
    rw [if_neg]
    simp
    omega
  · have e : n % (2 ^ IntKind.i64.bits : Int) = n + 18446744073709551616 := by rw [e1]; omega
    simp only [IntKind.wrap, e2, e1] at *
    rw [if_pos]
    · omega
    · simp [IntKind.signed]; omega


theorem wrap_u64 {n : Int} (h : 0 ≤ n ∧ n < 18446744073709551616) : IntKind.u64.wrap n = n := by
  have e1 : (2 ^ IntKind.u64.bits : Int) = 18446744073709551616 := by decide
  have e : n % (2 ^ IntKind.u64.bits : Int) = n := Int.emod_eq_of_lt h.1 (by omega)
  simp only [IntKind.wrap, e]
  rw [if_neg]
  simp [IntKind.signed]

theorem Mut.far {b lo hi : Nat} {w w' : World} (h : Mut b lo hi w w') {k o : Nat} {v : Value} (hk : k ≠ b) (hc : w.cell? ⟨k, o, none⟩ = some v) : w'.cell? ⟨k, o, none⟩ = some v := by
  have hlt : k < w.heap.size := World.block_lt_of_cell? _ _ hc
  rw [← hc]
  exact World.cell?_of_block (h.block k hlt hk)

theorem ret_int {k : IntKind} {a b : Int} (h : a = b) : Ending.returned (.int k a) = .returned (.int k b) := by rw [h]
theorem ret_bool {a b : Bool} (h : a = b) : Ending.returned (.bool a) = .returned (.bool b) := by rw [h]

end Go.Proofs.Qxb6500877aGreatDoor
