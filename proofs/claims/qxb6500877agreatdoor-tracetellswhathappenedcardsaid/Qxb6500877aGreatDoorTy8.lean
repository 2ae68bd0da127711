import Derived.Deep.CutBlock
import Derived.OwnWalk
import Derived.Maps.AppendAt
import Derived.Test.Qxb6500877aGreatDoorTx4
import Derived.Test.Qxb6500877aGreatDoorEb
set_option linter.unusedVariables false
set_option linter.unusedSimpArgs false
namespace Go.Proofs.Qxb6500877aGreatDoor
open Go.RowKit

theorem ev_same (e : EvS) (w : World) : (Op.equalIn 10000 123 (.agg #[.int .u8 e.kd, .int .u64 e.ti, .int .i64 e.co, .int .i64 e.tk, .int .u64 e.tm, .int .i64 e.bx, .int .u64 e.sq, .int .u8 e.st, .int .i64 e.cd]) (.agg #[.int .u8 e.kd, .int .u64 e.ti, .int .i64 e.co, .int .i64 e.tk, .int .u64 e.tm, .int .i64 e.bx, .int .u64 e.sq, .int .u8 e.st, .int .i64 e.cd])).run Tryz.prog w = .ok true w := by
  have hS : Tryz.prog.underlying 123 = some (.struct (Tryz.prog.fieldsOf 123)) := by kernel_rfl
  have hp : Tryz.prog.stoodInHeld 123 = false := by kernel_rfl
  rw [show (10000 : Nat) = 9999 + 1 from rfl, run_equalIn_agg w 9999 123 _ _ hS hp]
  simp only [Program.fieldsOf, Tryz.underlying123]
  clear hS hp
  go_simp
theorem ev_neq (e : EvS) (w : World) : (binOp .neq 123 (.agg #[.int .u8 e.kd, .int .u64 e.ti, .int .i64 e.co, .int .i64 e.tk, .int .u64 e.tm, .int .i64 e.bx, .int .u64 e.sq, .int .u8 e.st, .int .i64 e.cd]) (.agg #[.int .u8 e.kd, .int .u64 e.ti, .int .i64 e.co, .int .i64 e.tk, .int .u64 e.tm, .int .i64 e.bx, .int .u64 e.sq, .int .u8 e.st, .int .i64 e.cd])).run Tryz.prog w = .ok (.bool false) w := by
  have h := ev_same e w
  rw [run_neq_struct, h]
  rfl
theorem guard123 : Tryz.prog.eqGuardType Tryz.prog.depth 123 = false := by kernel_rfl
set_option maxRecDepth 20000 in
set_option maxHeartbeats 4000000 in
theorem eq_events {w : World} {v v' : Value} {l : List EvS} (H1 : EvIn w v l) (H2 : EvIn w v' l) (hbig : l.length ≤ 1000000000) :
    Calls Tryz.prog 59 #[v, v'] w fun e w' => e = .returned (.bool true) ∧ Below w.heap.size w w' := by
  obtain ⟨p1, k1, rfl, H1⟩ := H1
  obtain ⟨p2, k2, rfl, H2⟩ := H2
  by_cases hl : l = []
  · subst hl
    simp only [List.length_nil]
    clear H1 H2 hbig
    go_enter Tryz.func59, Tryz.ntmps59
    go_wp2_with fail
    go_loopg [13] 0 (fun g v wr => v = .int .i64 0 ∧ wr = w)
    case atStart => exact ⟨rfl, rfl⟩
    case round =>
      obtain ⟨rfl, rfl⟩ := hrel
      go_wp2
      go_ret
      exact ⟨rfl, Below.refl _ _⟩
  · obtain ⟨g1, o1, rfl, K1⟩ : ∃ g off, p1 = some ⟨g, off, none⟩ ∧ ∀ j e, l[j]? = some e → Ev9 w g (off + j * 9) e := by
      rcases H1 with h | h
      · exact absurd h hl
      · exact h
    obtain ⟨g2, o2, rfl, K2⟩ : ∃ g off, p2 = some ⟨g, off, none⟩ ∧ ∀ j e, l[j]? = some e → Ev9 w g (off + j * 9) e := by
      rcases H2 with h | h
      · exact absurd h hl
      · exact h
    have hlp : 0 < l.length := List.length_pos_iff.2 hl
    have h1 : g1 < w.heap.size := (K1 0 l[0] (List.getElem?_eq_getElem hlp)).lt
    have h2 : g2 < w.heap.size := (K2 0 l[0] (List.getElem?_eq_getElem hlp)).lt
    obtain ⟨n, HN⟩ : ∃ n, Hid (l.length = n) := ⟨_, hideIt rfl⟩
    rw [HN.out] at hbig ⊢
    have HH1 := hideIt K1
    have HH2 := hideIt K2
    clear H1 H2 K1 K2 hl hlp
    go_enter Tryz.func59, Tryz.ntmps59
    go_wp2_with fail
    go_loopg [13] n (fun g v wr => ∃ i : Nat, i + g = n ∧ v = .int .i64 (i : Int) ∧ Below w.heap.size w wr)
    case atStart => exact ⟨0, by omega, rfl, Below.refl _ _⟩
    case round =>
      obtain ⟨i, hi, rfl, hbr⟩ := hrel
      by_cases hin : i < n
      · have i0 : (0 : Int) ≤ i := by omega
        have i1 : (i : Int) < (n : Int) := by omega
        obtain ⟨m, hm⟩ : ∃ m, l[i]? = some m := ⟨l[i]'(by have := HN.out; omega), List.getElem?_eq_getElem (by have := HN.out; omega)⟩
        obtain ⟨a0, a1, a2, a3, a4, a5, a6, a7, a8⟩ := (HH1.out i m hm).blk (hbr.block g1 h1)
        obtain ⟨b0, b1, b2, b3, b4, b5, b6, b7, b8⟩ := (HH2.out i m hm).blk (hbr.block g2 h2)
        have hnq := ev_neq m
        have hgd := guard123
        clear hm
        go_wp2_with fail
        go_quiet (fail)
        go_wp2
        go_roundg (n - (i + 1))
        case measure => omega
        case rel => exact ⟨i + 1, by omega, by go_num, below_drewN hbr _⟩
      · have e : i = n := by omega
        subst e
        go_wp2
        go_ret
        exact ⟨rfl, hbr⟩
end Go.Proofs.Qxb6500877aGreatDoor
