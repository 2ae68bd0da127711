import Derived.Test.Qxb6500877aGreatDoorNPq
set_option linter.unusedVariables false
set_option linter.unusedSimpArgs false
namespace Go.Proofs.Qxb6500877aGreatDoor
open Go.RowKit

/-- A message at an offset of a block. -/
structure NineO (w : World) (b q : Nat) (m : MsgV) : Prop where
  c0 : w.cell? ⟨b, q, none⟩ = some (.int .i64 m.mf)
  c1 : w.cell? ⟨b, q + 1, none⟩ = some (.int .i64 m.mt)
  c2 : w.cell? ⟨b, q + 2, none⟩ = some (.int .u32 m.md)
  c3 : w.cell? ⟨b, q + 3, none⟩ = some (.int .u64 m.mq)
  c4 : w.cell? ⟨b, q + 4, none⟩ = some (.int .u64 m.ma)
  c5 : w.cell? ⟨b, q + 5, none⟩ = some (.int .u64 m.x0)
  c6 : w.cell? ⟨b, q + 6, none⟩ = some (.int .u64 m.x1)
  c7 : w.cell? ⟨b, q + 7, none⟩ = some (.int .u64 m.x2)
  c8 : w.cell? ⟨b, q + 8, none⟩ = some (.int .u64 m.x3)
theorem Rws.nine {w : World} {base Sb Gb : Nat} {V : Nat → Value} {L : Nat → List MsgV} (h : Rws w base Sb Gb V L) {r : Nat} (hr : r < 32) (hl : 0 < (L r).length) :
    ∃ g c, V r = .slice (some ⟨g, 0, none⟩) (L r).length c ∧ base ≤ g ∧ g < w.heap.size ∧ ∀ j m, (L r)[j]? = some m → NineO w g (j * 9) m := by
  have h0 := h.own r hr
  rcases h0.2 with ⟨e, e2⟩ | ⟨g, cap, cur, e, hb, hh, _⟩
  · omega
  · refine ⟨g, cap, e, hb, ?_, fun j m hj => ?_⟩
    · by_cases hc : g < w.heap.size
      · exact hc
      · rw [Array.getElem?_eq_none (by omega)] at hh
        simp at hh
    · have key : ∀ q, q < 9 → w.cell? ⟨g, j * 9 + q, none⟩ = some (msgCell m q) := fun q hq => by
        have := h0.cells (g := g) (by rw [e]; rfl) (j * 9 + q) (msgCell m q) (by rw [msgCells_get _ _ _ hq, hj]; rfl)
        rw [addr_add0] at this
        exact this
      exact ⟨key 0 (by omega), key 1 (by omega), key 2 (by omega), key 3 (by omega), key 4 (by omega), key 5 (by omega), key 6 (by omega), key 7 (by omega), key 8 (by omega)⟩
theorem NineO.blk {w w' : World} {b q : Nat} {m : MsgV} (h : NineO w b q m) (e : w'.heap[b]? = w.heap[b]?) : NineO w' b q m :=
  ⟨(World.cell?_of_block (a := ⟨b, q, none⟩) e).trans h.c0, (World.cell?_of_block (a := ⟨b, q + 1, none⟩) e).trans h.c1, (World.cell?_of_block (a := ⟨b, q + 2, none⟩) e).trans h.c2, (World.cell?_of_block (a := ⟨b, q + 3, none⟩) e).trans h.c3, (World.cell?_of_block (a := ⟨b, q + 4, none⟩) e).trans h.c4, (World.cell?_of_block (a := ⟨b, q + 5, none⟩) e).trans h.c5, (World.cell?_of_block (a := ⟨b, q + 6, none⟩) e).trans h.c6, (World.cell?_of_block (a := ⟨b, q + 7, none⟩) e).trans h.c7, (World.cell?_of_block (a := ⟨b, q + 8, none⟩) e).trans h.c8⟩
theorem below_drewN {b : Nat} {w w1 : World} (h : Below b w w1) (n : Nat) : Below b w (w1.drewN n) := ⟨h.os, h.tape, h.output, h.size, h.block⟩
set_option maxHeartbeats 4000000 in
theorem equal_at {w : World} {g1 g2 n k1 k2 : Nat} {l : List MsgV} (hbig : n ≤ 1000000) (hn : l.length = n) (h1 : g1 < w.heap.size) (h2 : g2 < w.heap.size) (H1 : ∀ j m, l[j]? = some m → NineO w g1 (j * 9) m) (H2 : ∀ j m, l[j]? = some m → NineO w g2 (j * 9) m) :
    Calls Tryz.prog 31 #[.slice (some ⟨g1, 0, none⟩) n k1, .slice (some ⟨g2, 0, none⟩) n k2] w fun e w' => e = .returned (.bool true) ∧ Below w.heap.size w w' := by
  go_enter Tryz.func31, Tryz.ntmps31
  go_wp2_with fail
  go_loopg [13] n (fun g v wr => ∃ i : Nat, i + g = n ∧ v = .int .i64 (i : Int) ∧ Below w.heap.size w wr)
  case atStart => exact ⟨0, by omega, rfl, Below.refl _ _⟩
  case round =>
    obtain ⟨i, hi, rfl, hbr⟩ := hrel
    by_cases hin : i < n
    · have i0 : (0 : Int) ≤ i := by omega
      have i1 : (i : Int) < (n : Int) := by omega
      obtain ⟨m, hm⟩ : ∃ m, l[i]? = some m := ⟨l[i]'(by omega), List.getElem?_eq_getElem (by omega)⟩
      obtain ⟨a0, a1, a2, a3, a4, a5, a6, a7, a8⟩ := (H1 i m hm).blk (hbr.block g1 h1)
      obtain ⟨b0, b1, b2, b3, b4, b5, b6, b7, b8⟩ := (H2 i m hm).blk (hbr.block g2 h2)
      clear hm H1 H2 hn
      have hnq := msg_neq m
      have hgd := guard40
      go_wp2_with fail
      go_quiet (fail)
      go_wp2
      go_roundg (n - (i + 1))
      case measure => omega
      case rel => exact ⟨i + 1, by omega, by go_num, below_drewN hbr _⟩
    · have e : i = n := by omega
      subst e
      go_wp2
      go_ret
      exact ⟨rfl, hbr⟩
set_option maxHeartbeats 1000000 in
theorem equal_nil {w : World} {p1 p2 : Option Addr} {k1 k2 : Nat} :
    Calls Tryz.prog 31 #[.slice p1 0 k1, .slice p2 0 k2] w fun e w' => e = .returned (.bool true) ∧ Below w.heap.size w w' := by
  go_enter Tryz.func31, Tryz.ntmps31
  go_wp2_with fail
  go_loopg [13] 0 (fun g v wr => v = .int .i64 0 ∧ wr = w)
  case atStart => exact ⟨rfl, rfl⟩
  case round =>
    obtain ⟨rfl, rfl⟩ := hrel
    go_wp2
    go_ret
    exact ⟨rfl, Below.refl _ _⟩
theorem equal_any {w : World} {base Sb Gb : Nat} {V : Nat → Value} {L : Nat → List MsgV} (h : Rws w base Sb Gb V L) {r s : Nat} (hr : r < 32) (hs : s < 32) (e : L r = L s) (hbig : (L r).length ≤ 1000000) :
    Calls Tryz.prog 31 #[V r, V s] w fun e w' => e = .returned (.bool true) ∧ Below w.heap.size w w' := by
  by_cases hl : 0 < (L r).length
  · obtain ⟨g1, k1, e1, _, l1, H1⟩ := h.nine hr hl
    obtain ⟨g2, k2, e2, _, l2, H2⟩ := h.nine hs (by rw [← e]; exact hl)
    rw [e1, e2, ← e]
    rw [← e] at H2
    exact equal_at hbig rfl l1 l2 H1 H2
  · obtain ⟨p1, k1, e1⟩ := h.shape hr
    obtain ⟨p2, k2, e2⟩ := h.shape hs
    rw [e1, e2, ← e, show (L r).length = 0 by omega]
    exact equal_nil
end Go.Proofs.Qxb6500877aGreatDoor
