import Derived.Test.Qxb6500872aDoorWn
import Derived.LaidEql
set_option linter.unusedVariables false
namespace Go.Proofs.Qxb6500872aDoor
open Go.RowKit

set_option maxHeartbeats 1000000 in
/-- Two equal numbers are the same. -/
theorem same_eq {m : Bool} {a a' : Option Addr} {n c c' : Nat} {xs ys : List Int} {w : World} (h : Limbs w a n c xs) (h' : Limbs w a' n c' ys) (he : ∀ j, j < n → xs[j]?.getD 0 = ys[j]?.getD 0) :
    Calls Tryd.prog 8 #[.agg #[.bool m, .slice a n c], .agg #[.bool m, .slice a' n c']] w fun e w' => e = .returned (.bool true) ∧ Below w.heap.size w w' := by
  have hB0 := two_alloc w (.cells #[.bool m, .slice a n c] 28) (.cells #[.bool m, .slice a' n c'] 28)
  have H := h.below hB0
  have H' := h'.below hB0
  have hb := h.big
  have hc := h.cap
  have k0 : ∀ d, (((w.alloc (.cells #[.bool m, .slice a n c] 28)).alloc (.cells #[.bool m, .slice a' n c'] 28)).drewN d).cell? ⟨w.heap.size, 1, none⟩ = some (.slice a n c) := fun d => by simp
  have k1 : ∀ d, (((w.alloc (.cells #[.bool m, .slice a n c] 28)).alloc (.cells #[.bool m, .slice a' n c'] 28)).drewN d).cell? ⟨w.heap.size + 1, 1, none⟩ = some (.slice a' n c') := fun d => by simp
  have f0 : ((w.alloc (.cells #[.bool m, .slice a n c] 28)).alloc (.cells #[.bool m, .slice a' n c'] 28)).cell? ⟨w.heap.size, 0, none⟩ = some (.bool m) := by simp
  have f1 : ((w.alloc (.cells #[.bool m, .slice a n c] 28)).alloc (.cells #[.bool m, .slice a' n c'] 28)).cell? ⟨w.heap.size + 1, 0, none⟩ = some (.bool m) := by simp
  have f2 : ((w.alloc (.cells #[.bool m, .slice a n c] 28)).alloc (.cells #[.bool m, .slice a' n c'] 28)).cell? ⟨w.heap.size, 1, none⟩ = some (.slice a n c) := by simp
  have f3 : ((w.alloc (.cells #[.bool m, .slice a n c] 28)).alloc (.cells #[.bool m, .slice a' n c'] 28)).cell? ⟨w.heap.size + 1, 1, none⟩ = some (.slice a' n c') := by simp
  generalize hW : (w.alloc (.cells #[.bool m, .slice a n c] 28)).alloc (.cells #[.bool m, .slice a' n c'] 28) = W at *
  have HE : Hid (∀ j, j < n → xs[j]?.getD 0 = ys[j]?.getD 0) := he
  clear he
  go_enter Tryd.func8, Tryd.ntmps8
  go_wp2
  clear hW
  go_loopw [23] (fun i wr => ∃ k : Nat, k ≤ n ∧ i = .int .i64 (k : Int) ∧ ∃ d, wr = W.drewN d) (fun i _ => ((n : Int) - intOf i).toNat)
  case atStart => exact ⟨0, Nat.zero_le _, rfl, 0, rfl⟩
  case round =>
    obtain ⟨k, hk, rfl, d, rfl⟩ := hrel
    by_cases hkn : k < n
    · obtain ⟨b, off, rfl, hcell⟩ := H.at hkn
      obtain ⟨b', off', rfl, hcell'⟩ := H'.at hkn
      have h1 := hcell k (by omega)
      have h2 := hcell' k (by omega)
      have hz : (xs[k]?.getD 0 != ys[k]?.getD 0) = false := by simp [HE.out k hkn]
      go_wp2
      go_quiet (fail)
      go_wp2
      go_roundw
      case rel => exact ⟨k + 1, by omega, by go_num, _, rfl⟩
      case measure => simp [intOf]; omega
    · go_wp2
      go_ret
      exact ⟨rfl, below_drewN hB0 d⟩

/-- What the package's variables hold. -/
structure Sents (w : World) (p0 p1 : Addr) (E2 : Value) : Prop where
  c0 : w.cell? ⟨0, 0, none⟩ = some (.iface 85 (.pointer (some p0)))
  c1 : w.cell? ⟨1, 0, none⟩ = some (.iface 85 (.pointer (some p1)))
  c2 : w.cell? ⟨2, 0, none⟩ = some E2
  b0 : ∃ c t, w.heap[p0.block]? = some (.cells c t (0, 0))
  b1 : ∃ c t, w.heap[p1.block]? = some (.cells c t (0, 0))

theorem heap_lt {w : World} {b : Nat} {o : Obj} (h : w.heap[b]? = some o) : b < w.heap.size := by
  rcases Nat.lt_or_ge b w.heap.size with h' | h'
  · exact h'
  · simp [Array.getElem?_eq_none h'] at h
theorem Sents.below {w w' : World} {p0 p1 : Addr} {E2 : Value} (h : Sents w p0 p1 E2) (hb : Below w.heap.size w w') : Sents w' p0 p1 E2 := by
  obtain ⟨c, t, h0⟩ := h.b0
  obtain ⟨c', t', h1⟩ := h.b1
  exact ⟨cell_later hb h.c0, cell_later hb h.c1, cell_later hb h.c2, ⟨c, t, (hb.block _ (heap_lt h0)).trans h0⟩, ⟨c', t', (hb.block _ (heap_lt h1)).trans h1⟩⟩

theorem Tryd.comp85 : (Tryd.prog.info? 85).map (·.comparable) = some true := by kernel_rfl
theorem Tryd.und85 : Tryd.prog.underlying 85 = some (.pointer 103) := by kernel_rfl
theorem Tryd.size103 : (Tryd.prog.info? 103).map (·.size) = some 1 := by kernel_rfl

theorem eql_sents {w : World} {p q : Addr} {c c' : Array Value} {t t' : TypeId} (h : w.heap[p.block]? = some (.cells c t (0, 0))) (h' : w.heap[q.block]? = some (.cells c' t' (0, 0))) :
    (binOp .eql 40 (.iface 85 (.pointer (some p))) (.iface 85 (.pointer (some q)))).run Tryd.prog w = .ok (.bool (decide (p = q))) w := by
  obtain ⟨i, hi, hcmp⟩ := Option.map_eq_some_iff.1 Tryd.comp85
  obtain ⟨j, hj, hjs⟩ := Option.map_eq_some_iff.1 Tryd.size103
  by_cases hpq : p = q
  · subst hpq
    rw [run_eql_iface_ptr_same w p Tryd.underlying40 Tryd.und85 hi hcmp hj]; simp
  · rw [run_eql_iface_ptr_other w Tryd.underlying40 Tryd.und85 hi hcmp hj (by rw [hjs]; decide) hpq h h']; simp [hpq]

/-- An error's code is not zero. -/
theorem fault_any {w : World} {p0 p1 : Addr} {E2 : Value} (h : Sents w p0 p1 E2) {q : Addr} {c : Array Value} {t : TypeId} (hq : w.heap[q.block]? = some (.cells c t (0, 0))) :
    Calls Tryd.prog 14 #[.iface 85 (.pointer (some q))] w fun e w' => (∃ x : Int, x ≠ 0 ∧ e = .returned (.int .i64 x)) ∧ w' = w := by
  obtain ⟨c0, t0, h0⟩ := h.b0
  obtain ⟨c1, t1, h1⟩ := h.b1
  have e0 := eql_sents hq h0
  have e1 := eql_sents hq h1
  have k0 := h.c0
  have k1 := h.c1
  by_cases d0 : q = p0
  · have D0 : decide (q = p0) = true := by simp [d0]
    rw [D0] at e0
    clear d0 D0
    go_enter Tryd.func14, Tryd.ntmps14
    go_wp2
    go_ret
    exact ⟨⟨3, by decide, rfl⟩, rfl⟩
  · have D0 : decide (q = p0) = false := by simp [d0]
    rw [D0] at e0
    clear d0 D0
    by_cases d1 : q = p1
    · have D1 : decide (q = p1) = true := by simp [d1]
      rw [D1] at e1
      clear d1 D1
      go_enter Tryd.func14, Tryd.ntmps14
      go_wp2
      go_ret
      exact ⟨⟨4, by decide, rfl⟩, rfl⟩
    · have D1 : decide (q = p1) = false := by simp [d1]
      rw [D1] at e1
      clear d1 D1
      go_enter Tryd.func14, Tryd.ntmps14
      go_wp2
      go_ret
      exact ⟨⟨-1, by decide, rfl⟩, rfl⟩
end Go.Proofs.Qxb6500872aDoor
