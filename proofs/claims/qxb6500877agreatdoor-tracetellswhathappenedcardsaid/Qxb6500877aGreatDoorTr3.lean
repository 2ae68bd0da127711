import Derived.Deep.CutBlock
import Derived.OwnWalk
import Derived.Maps.AppendAt
import Derived.Test.Qxb6500877aGreatDoorTr2
import Derived.Test.Qxb6500877aGreatDoorZc
import Derived.Test.Qxb6500877aGreatDoorEb
set_option linter.unusedVariables false
set_option linter.unusedSimpArgs false
namespace Go.Proofs.Qxb6500877aGreatDoor
open Go.RowKit

def rS (N : Nat) (l : List EvS) : Nat := if l.length ≤ N then 0 else l.length % N
def rFt (N : Nat) : List EvS → Nat → (Nat → Option EvS) → Nat → Option EvS
  | [], _, f => f
  | e :: l, i, f => rFt N l (i + 1) (upd f (i % N) (some e))
theorem rFt_snoc (N : Nat) (e : EvS) : ∀ (l : List EvS) (i : Nat) (f : Nat → Option EvS), rFt N (l ++ [e]) i f = upd (rFt N l i f) ((i + l.length) % N) (some e)
  | [], i, f => rfl
  | x :: l, i, f => by
    show rFt N (l ++ [e]) (i + 1) _ = upd (rFt N l (i + 1) _) _ _
    rw [rFt_snoc N e l, List.length_cons, show i + 1 + l.length = i + (l.length + 1) by omega]
theorem rFt_keep (N p : Nat) : ∀ (l : List EvS) (i : Nat) (f : Nat → Option EvS), (∀ j, i ≤ j → j < i + l.length → j % N ≠ p) → rFt N l i f p = f p
  | [], i, f, _ => rfl
  | x :: l, i, f, h => by
    show rFt N l (i + 1) _ p = _
    rw [rFt_keep N p l (i + 1) _ (fun j h1 h2 => h j (by omega) (by simp only [List.length_cons]; omega)), upd_other _ _ (fun e => h i (Nat.le_refl _) (by simp only [List.length_cons]; omega) e.symm)]
theorem mod_apart {N i j : Nat} (h1 : i < j) (h2 : j < i + N) : j % N ≠ i % N := fun e => by
  have hd := Nat.div_add_mod j N
  have hi := Nat.div_add_mod i N
  rw [e] at hd
  have hlt : i / N < j / N := by
    refine Nat.lt_of_not_le (fun q => ?_)
    have := Nat.mul_le_mul_left N q
    omega
  have := Nat.mul_le_mul_left N hlt
  rw [Nat.mul_succ] at this
  omega
theorem rFt_get (N : Nat) : ∀ (l : List EvS) (i0 i : Nat) (f : Nat → Option EvS), i0 ≤ i → i < i0 + l.length → i0 + l.length ≤ i + N → rFt N l i0 f (i % N) = l[i - i0]?
  | [], i0, i, f, h1, h2, h3 => by simp at h2; omega
  | x :: l, i0, i, f, h1, h2, h3 => by
    simp only [List.length_cons] at h2 h3
    show rFt N l (i0 + 1) _ (i % N) = _
    by_cases q : i = i0
    · subst q
      rw [rFt_keep N _ l (i + 1) _ (fun j h4 h5 => mod_apart (by omega) (by omega)), upd_same]
      simp
    · rw [rFt_get N l (i0 + 1) i _ (by omega) (by omega) (by omega), show i - i0 = (i - (i0 + 1)) + 1 by omega, List.getElem?_cons_succ]
def rF (N : Nat) (l : List EvS) : Nat → Option EvS := rFt N l 0 (fun _ => none)
theorem rF_snoc (N : Nat) (l : List EvS) (e : EvS) : rF N (l ++ [e]) = upd (rF N l) (l.length % N) (some e) := by
  rw [rF, rFt_snoc, Nat.zero_add]; rfl
theorem rF_get {N i : Nat} {l : List EvS} (h1 : i < l.length) (h2 : l.length ≤ i + N) : rF N l (i % N) = l[i]? := by
  have := rFt_get N l 0 i (fun _ => none) (by omega) (by omega) (by omega)
  rw [Nat.sub_zero] at this
  exact this
def cntK (l : List EvS) (k : Nat) : Int := ((l.filter (fun e => decide (e.kd = (k : Int)))).length : Nat)
theorem cntK_snoc (l : List EvS) {e : EvS} {kk : Nat} (h : e.kd = (kk : Int)) (hl : l.length < 1000000000000) : cntK (l ++ [e]) = upd (cntK l) kk (inc64 (cntK l kk)) := by
  funext k
  unfold cntK
  rw [List.filter_append, List.length_append]
  by_cases q : k = kk
  · subst q
    have hle := List.length_filter_le (fun e : EvS => decide (e.kd = (k : Int))) l
    rw [upd_same, inc64_small (by omega)]
    simp [h]
  · rw [upd_other _ _ q]
    have : ¬ ((kk : Int) = (k : Int)) := by omega
    simp [h, this]
/-- The ring holds the latest of the events l, and has counted all. -/
def RingAt (w : World) (R F N : Nat) (l : List EvS) : Prop := RingX w R F N (rS N l : Nat) ((min l.length N : Nat) : Int) (l.length : Nat) (cntK l) (rF N l)
theorem ring_rec {w : World} {R F N kk : Nat} {l : List EvS} {e : EvS} (H : RingAt w R F N l) (hN : 0 < N ∧ N ≤ 8) (hl : l.length < 1000000000000) (ek : e.kd = (kk : Int)) (hkk : kk < 11) :
    Calls Tryz.prog 259 #[.pointer (some ⟨R, 0, none⟩), evV e] w fun x w' => x = .returned (.tuple #[]) ∧ RingAt w' R F N (l ++ [e]) ∧ RW R F w w' := by
  unfold RingAt at *
  rw [rF_snoc, cntK_snoc l ek hl, List.length_append, List.length_singleton]
  by_cases h : l.length < N
  · have e1 : rS N l = 0 := by unfold rS; rw [if_pos (by omega)]
    have e2 : rS N (l ++ [e]) = 0 := by unfold rS; rw [if_pos (by rw [List.length_append, List.length_singleton]; omega)]
    have e3 : min l.length N = l.length := by omega
    have e4 : min (l.length + 1) N = l.length + 1 := by omega
    rw [e1, e3] at H
    rw [e2, e4, Nat.mod_eq_of_lt h]
    exact ring_new H h hN.2 hl (hideIt ek) hkk
  · have hlt : l.length % N < N := Nat.mod_lt _ hN.1
    have e1 : rS N l = l.length % N := by
      unfold rS
      by_cases q : l.length ≤ N
      · have : l.length = N := by omega
        rw [if_pos q, this, Nat.mod_self]
      · rw [if_neg q]
    have e2 : rS N (l ++ [e]) = (l.length % N + 1) % N := by
      unfold rS
      rw [List.length_append, List.length_singleton, if_neg (by omega), Nat.mod_add_mod]
    have e3 : min l.length N = N := by omega
    have e4 : min (l.length + 1) N = N := by omega
    rw [e1, e3] at H
    rw [e2, e4]
    exact ring_full H hlt hN.2 hl (hideIt ek) hkk
def evCells (l : List EvS) : List Value := l.flatMap ev9
theorem evCells_snoc (l : List EvS) (e : EvS) : evCells (l ++ [e]) = evCells l ++ ev9 e := by simp [evCells]
theorem ev9_one (e : EvS) : ∀ u ∈ ev9 e, u.oneCell' = true := by
  intro u hu
  simp [ev9] at hu
  rcases hu with rfl | rfl | rfl | rfl | rfl | rfl | rfl | rfl | rfl <;> rfl
theorem info123 : (Tryz.prog.info? 123).map (fun i => (i.zero, i.size, i.bytes)) = some (some (.agg #[.int .u8 0, .int .u64 0, .int .i64 0, .int .i64 0, .int .u64 0, .int .i64 0, .int .u64 0, .int .u8 0, .int .i64 0]), 9, 72) := by kernel_rfl
theorem cell_ev_new (w : World) (e : EvS) (t : TypeId) : ∀ j u, (ev9 e)[j]? = some u → (w.alloc (.cells #[.int .u8 e.kd, .int .u64 e.ti, .int .i64 e.co, .int .i64 e.tk, .int .u64 e.tm, .int .i64 e.bx, .int .u64 e.sq, .int .u8 e.st, .int .i64 e.cd] t)).cell? ((⟨w.heap.size, 0, none⟩ : Addr).add j) = some u := by
  intro j u h
  rw [addr_add0]

  match j, h with
  | 0, h => simp [ev9] at h; subst h; simp
  | 1, h => simp [ev9] at h; subst h; simp
  | 2, h => simp [ev9] at h; subst h; simp
  | 3, h => simp [ev9] at h; subst h; simp
  | 4, h => simp [ev9] at h; subst h; simp
  | 5, h => simp [ev9] at h; subst h; simp
  | 6, h => simp [ev9] at h; subst h; simp
  | 7, h => simp [ev9] at h; subst h; simp
  | 8, h => simp [ev9] at h; subst h; simp
  | j + 9, h => simp [ev9] at h
end Go.Proofs.Qxb6500877aGreatDoor
