import Derived.DeepKeys
import Derived.Test.Qxb6500877aGreatDoorQh1
set_option linter.unusedVariables false
set_option linter.unusedSimpArgs false
namespace Go.Proofs.Qxb6500877aGreatDoor
open Go.RowKit

theorem quad_same (a b c d : Int) (w : World) : (Op.equalIn 9999 38 (.agg #[.int .u64 a, .int .u64 b, .int .u64 c, .int .u64 d]) (.agg #[.int .u64 a, .int .u64 b, .int .u64 c, .int .u64 d])).run Tryz.prog w = .ok true w := by
  obtain ⟨i, hi⟩ : ∃ i, Tryz.prog.info? 28 = some i := info_of_underlying Tryz.underlying28
  have hc : Tryz.prog.cellsOf 28 = 1 := by kernel_rfl
  rw [show (9999 : Nat) = 9998 + 1 from rfl, run_equalIn_array w 9998 _ _ Tryz.underlying38 hi, hc]
  simp only [List.range, List.range.loop, Op.eqItems]
  go_simp
theorem msg_same (m : MsgV) (w : World) : (Op.equalIn 10000 40 (msgV m) (msgV m)).run Tryz.prog w = .ok true w := by
  have hS : Tryz.prog.underlying 40 = some (.struct (Tryz.prog.fieldsOf 40)) := by kernel_rfl
  have hp : Tryz.prog.stoodInHeld 40 = false := by kernel_rfl
  have hq := quad_same m.x0 m.x1 m.x2 m.x3 w
  unfold msgV
  rw [show (10000 : Nat) = 9999 + 1 from rfl, run_equalIn_agg w 9999 40 _ _ hS hp]
  simp only [Program.fieldsOf, Tryz.underlying40]
  go_simp
theorem msg_neq (m : MsgV) (w : World) : (binOp .neq 40 (.agg #[.int .i64 m.mf, .int .i64 m.mt, .int .u32 m.md, .int .u64 m.mq, .int .u64 m.ma, .int .u64 m.x0, .int .u64 m.x1, .int .u64 m.x2, .int .u64 m.x3]) (.agg #[.int .i64 m.mf, .int .i64 m.mt, .int .u32 m.md, .int .u64 m.mq, .int .u64 m.ma, .int .u64 m.x0, .int .u64 m.x1, .int .u64 m.x2, .int .u64 m.x3])).run Tryz.prog w = .ok (.bool false) w := by
  have h := msg_same m w
  unfold msgV at h
  rw [run_neq_struct, h]
  rfl
theorem guard40 : Tryz.prog.eqGuardType Tryz.prog.depth 40 = false := by kernel_rfl
theorem below_drewN {b : Nat} {w w1 : World} (h : Below b w w1) (n : Nat) : Below b w (w1.drewN n) := ⟨h.os, h.tape, h.output, h.size, h.block⟩
theorem tmr_same (e : TmR) (w : World) : (Op.equalIn 10000 84 (.agg #[.int .u64 e.id, .int .i64 e.core, .int .u64 e.dl, .int .u64 e.ck]) (.agg #[.int .u64 e.id, .int .i64 e.core, .int .u64 e.dl, .int .u64 e.ck])).run Tryz.prog w = .ok true w := by
  have hS : Tryz.prog.underlying 84 = some (.struct (Tryz.prog.fieldsOf 84)) := by kernel_rfl
  have hp : Tryz.prog.stoodInHeld 84 = false := by kernel_rfl
  rw [show (10000 : Nat) = 9999 + 1 from rfl, run_equalIn_agg w 9999 84 _ _ hS hp]
  simp only [Program.fieldsOf, Tryz.underlying84]
  go_simp
theorem tmr_neq (e : TmR) (w : World) : (binOp .neq 84 (.agg #[.int .u64 e.id, .int .i64 e.core, .int .u64 e.dl, .int .u64 e.ck]) (.agg #[.int .u64 e.id, .int .i64 e.core, .int .u64 e.dl, .int .u64 e.ck])).run Tryz.prog w = .ok (.bool false) w := by
  have h := tmr_same e w
  rw [run_neq_struct, h]
  rfl
theorem guard84 : Tryz.prog.eqGuardType Tryz.prog.depth 84 = false := by kernel_rfl
set_option maxHeartbeats 4000000 in
theorem eq_msgs {w : World} {base base' : Nat} {v v' : Value} {l : List MsgV} (H1 : MsgsAt w base v l) (H2 : MsgsAt w base' v' l) (hbig : l.length ≤ 1000000) :
    Calls Tryz.prog 31 #[v, v'] w fun e w' => e = .returned (.bool true) ∧ Below w.heap.size w w' := by
  by_cases hl : l = []
  · obtain ⟨p1, k1, e1⟩ := H1.shape
    obtain ⟨p2, k2, e2⟩ := H2.shape
    rw [e1, e2, hl]
    simp only [List.length_nil]
    clear H1 H2 e1 e2 hl hbig
    go_enter Tryz.func31, Tryz.ntmps31
    go_wp2_with fail
    go_loopg [13] 0 (fun g v wr => v = .int .i64 0 ∧ wr = w)
    case atStart => exact ⟨rfl, rfl⟩
    case round =>
      obtain ⟨rfl, rfl⟩ := hrel
      go_wp2
      go_ret
      exact ⟨rfl, Below.refl _ _⟩
  · obtain ⟨g1, k1, rfl, _, h1, H1⟩ : ∃ g cap, v = .slice (some ⟨g, 0, none⟩) l.length cap ∧ base ≤ g ∧ g < w.heap.size ∧ ∀ j m, l[j]? = some m → NineO w g (j * 9) m := by
      rcases H1 with ⟨h, _⟩ | h
      · exact absurd h hl
      · exact h
    obtain ⟨g2, k2, rfl, _, h2, H2⟩ : ∃ g cap, v' = .slice (some ⟨g, 0, none⟩) l.length cap ∧ base' ≤ g ∧ g < w.heap.size ∧ ∀ j m, l[j]? = some m → NineO w g (j * 9) m := by
      rcases H2 with ⟨h, _⟩ | h
      · exact absurd h hl
      · exact h
    obtain ⟨n, HN⟩ : ∃ n, Hid (l.length = n) := ⟨_, hideIt rfl⟩
    rw [HN.out] at hbig ⊢
    have HH1 := hideIt H1
    have HH2 := hideIt H2
    clear H1 H2 hl
    go_enter Tryz.func31, Tryz.ntmps31
    go_wp2_with fail
    go_loopg [13] n (fun g v wr => ∃ i : Nat, i + g = n ∧ v = .int .i64 (i : Int) ∧ Below w.heap.size w wr)
    case atStart => exact ⟨0, by omega, rfl, Below.refl _ _⟩
    case round =>
      obtain ⟨i, hi, rfl, hbr⟩ := hrel
      by_cases hin : i < n
      · have i0 : (0 : Int) ≤ i := by omega
        have i1 : (i : Int) < (n : Int) := by omega
        obtain ⟨m, hm⟩ : ∃ m, l[i]? = some m := ⟨l[i]'(by have := HN.out; omega), List.getElem?_eq_getElem (by have := HN.out; omega)⟩
        obtain ⟨a0, a1, a2, a3, a4, a5, a6, a7, a8⟩ := (HH1.out i m hm).blk (hbr.block g1 h1)
        obtain ⟨b0, b1, b2, b3, b4, b5, b6, b7, b8⟩ := (HH2.out i m hm).blk (hbr.block g2 h2)
        have hnq := msg_neq m
        have hgd := guard40
        clear hm
        go_wp2_with fail
        go_quiet (fail)
        go_wp2
        go_roundg (n - (i + 1))
        case measure => omega
        case rel => exact ⟨i + 1, by omega, by go_num, below_drewN hbr _⟩
      · have e : i = n := by omega
        subst e
        go_wp2
        go_ret
        exact ⟨rfl, hbr⟩
set_option maxHeartbeats 4000000 in
theorem eq_ids {w : World} {base base' : Nat} {v v' : Value} {l : List Nat} (H1 : IdsAt w base v l) (H2 : IdsAt w base' v' l) (hbig : l.length ≤ 1000000) :
    Calls Tryz.prog 94 #[v, v'] w fun e w' => e = .returned (.bool true) ∧ Below w.heap.size w w' := by
  by_cases hl : l = []
  · obtain ⟨p1, k1, e1⟩ := H1.shape
    obtain ⟨p2, k2, e2⟩ := H2.shape
    rw [e1, e2, hl]
    simp only [List.length_nil]
    clear H1 H2 e1 e2 hl hbig
    go_enter Tryz.func94, Tryz.ntmps94
    go_wp2_with fail
    go_loopg [13] 0 (fun g v wr => v = .int .i64 0 ∧ wr = w)
    case atStart => exact ⟨rfl, rfl⟩
    case round =>
      obtain ⟨rfl, rfl⟩ := hrel
      go_wp2
      go_ret
      exact ⟨rfl, Below.refl _ _⟩
  · obtain ⟨g1, k1, rfl, _, h1, H1⟩ : ∃ g cap, v = .slice (some ⟨g, 0, none⟩) l.length cap ∧ base ≤ g ∧ g < w.heap.size ∧ ∀ (j x : Nat), l[j]? = some x → w.cell? ⟨g, j, none⟩ = some (.int .i64 (x : Int)) := by
      rcases H1 with ⟨h, _⟩ | h
      · exact absurd h hl
      · exact h
    obtain ⟨g2, k2, rfl, _, h2, H2⟩ : ∃ g cap, v' = .slice (some ⟨g, 0, none⟩) l.length cap ∧ base' ≤ g ∧ g < w.heap.size ∧ ∀ (j x : Nat), l[j]? = some x → w.cell? ⟨g, j, none⟩ = some (.int .i64 (x : Int)) := by
      rcases H2 with ⟨h, _⟩ | h
      · exact absurd h hl
      · exact h
    obtain ⟨n, HN⟩ : ∃ n, Hid (l.length = n) := ⟨_, hideIt rfl⟩
    rw [HN.out] at hbig ⊢
    have HH1 := hideIt H1
    have HH2 := hideIt H2
    clear H1 H2 hl
    go_enter Tryz.func94, Tryz.ntmps94
    go_wp2_with fail
    go_loopg [13] n (fun g v wr => ∃ i : Nat, i + g = n ∧ v = .int .i64 (i : Int) ∧ Below w.heap.size w wr)
    case atStart => exact ⟨0, by omega, rfl, Below.refl _ _⟩
    case round =>
      obtain ⟨i, hi, rfl, hbr⟩ := hrel
      by_cases hin : i < n
      · have i0 : (0 : Int) ≤ i := by omega
        have i1 : (i : Int) < (n : Int) := by omega
        obtain ⟨m, hm⟩ : ∃ m, l[i]? = some m := ⟨l[i]'(by have := HN.out; omega), List.getElem?_eq_getElem (by have := HN.out; omega)⟩
        have a0 := (World.cell?_of_block (a := ⟨g1, i, none⟩) (hbr.block g1 h1)).trans (HH1.out i m hm)
        have b0 := (World.cell?_of_block (a := ⟨g2, i, none⟩) (hbr.block g2 h2)).trans (HH2.out i m hm)
        clear hm
        go_wp2_with fail
        go_quiet (fail)
        go_wp2
        go_roundg (n - (i + 1))
        case measure => omega
        case rel => exact ⟨i + 1, by omega, by go_num, below_drewN hbr _⟩
      · have e : i = n := by omega
        subst e
        go_wp2
        go_ret
        exact ⟨rfl, hbr⟩
set_option maxHeartbeats 4000000 in
theorem eq_tms {w : World} {base base' : Nat} {v v' : Value} {l : List TmR} (H1 : TmsAt w base v l) (H2 : TmsAt w base' v' l) (hbig : l.length ≤ 1000000) :
    Calls Tryz.prog 95 #[v, v'] w fun e w' => e = .returned (.bool true) ∧ Below w.heap.size w w' := by
  by_cases hl : l = []
  · obtain ⟨p1, k1, e1⟩ := H1.shape
    obtain ⟨p2, k2, e2⟩ := H2.shape
    rw [e1, e2, hl]
    simp only [List.length_nil]
    clear H1 H2 e1 e2 hl hbig
    go_enter Tryz.func95, Tryz.ntmps95
    go_wp2_with fail
    go_loopg [13] 0 (fun g v wr => v = .int .i64 0 ∧ wr = w)
    case atStart => exact ⟨rfl, rfl⟩
    case round =>
      obtain ⟨rfl, rfl⟩ := hrel
      go_wp2
      go_ret
      exact ⟨rfl, Below.refl _ _⟩
  · obtain ⟨g1, k1, rfl, _, h1, H1⟩ : ∃ g cap, v = .slice (some ⟨g, 0, none⟩) l.length cap ∧ base ≤ g ∧ g < w.heap.size ∧ ∀ j e, l[j]? = some e → w.cell? ⟨g, j * 4, none⟩ = some (.int .u64 e.id) ∧ w.cell? ⟨g, j * 4 + 1, none⟩ = some (.int .i64 e.core) ∧ w.cell? ⟨g, j * 4 + 2, none⟩ = some (.int .u64 e.dl) ∧ w.cell? ⟨g, j * 4 + 3, none⟩ = some (.int .u64 e.ck) := by
      rcases H1 with ⟨h, _⟩ | h
      · exact absurd h hl
      · exact h
    obtain ⟨g2, k2, rfl, _, h2, H2⟩ : ∃ g cap, v' = .slice (some ⟨g, 0, none⟩) l.length cap ∧ base' ≤ g ∧ g < w.heap.size ∧ ∀ j e, l[j]? = some e → w.cell? ⟨g, j * 4, none⟩ = some (.int .u64 e.id) ∧ w.cell? ⟨g, j * 4 + 1, none⟩ = some (.int .i64 e.core) ∧ w.cell? ⟨g, j * 4 + 2, none⟩ = some (.int .u64 e.dl) ∧ w.cell? ⟨g, j * 4 + 3, none⟩ = some (.int .u64 e.ck) := by
      rcases H2 with ⟨h, _⟩ | h
      · exact absurd h hl
      · exact h
    obtain ⟨n, HN⟩ : ∃ n, Hid (l.length = n) := ⟨_, hideIt rfl⟩
    rw [HN.out] at hbig ⊢
    have HH1 := hideIt H1
    have HH2 := hideIt H2
    clear H1 H2 hl
    go_enter Tryz.func95, Tryz.ntmps95
    go_wp2_with fail
    go_loopg [13] n (fun g v wr => ∃ i : Nat, i + g = n ∧ v = .int .i64 (i : Int) ∧ Below w.heap.size w wr)
    case atStart => exact ⟨0, by omega, rfl, Below.refl _ _⟩
    case round =>
      obtain ⟨i, hi, rfl, hbr⟩ := hrel
      by_cases hin : i < n
      · have i0 : (0 : Int) ≤ i := by omega
        have i1 : (i : Int) < (n : Int) := by omega
        obtain ⟨m, hm⟩ : ∃ m, l[i]? = some m := ⟨l[i]'(by have := HN.out; omega), List.getElem?_eq_getElem (by have := HN.out; omega)⟩
        obtain ⟨p0, p1, p2, p3⟩ := HH1.out i m hm
        obtain ⟨q0, q1, q2, q3⟩ := HH2.out i m hm
        have a0 := (World.cell?_of_block (a := ⟨g1, i * 4, none⟩) (hbr.block g1 h1)).trans p0
        have b0 := (World.cell?_of_block (a := ⟨g2, i * 4, none⟩) (hbr.block g2 h2)).trans q0
        have a1 := (World.cell?_of_block (a := ⟨g1, i * 4 + 1, none⟩) (hbr.block g1 h1)).trans p1
        have b1 := (World.cell?_of_block (a := ⟨g2, i * 4 + 1, none⟩) (hbr.block g2 h2)).trans q1
        have a2 := (World.cell?_of_block (a := ⟨g1, i * 4 + 2, none⟩) (hbr.block g1 h1)).trans p2
        have b2 := (World.cell?_of_block (a := ⟨g2, i * 4 + 2, none⟩) (hbr.block g2 h2)).trans q2
        have a3 := (World.cell?_of_block (a := ⟨g1, i * 4 + 3, none⟩) (hbr.block g1 h1)).trans p3
        have b3 := (World.cell?_of_block (a := ⟨g2, i * 4 + 3, none⟩) (hbr.block g2 h2)).trans q3
        have hnq := tmr_neq m
        have hgd := guard84
        clear p0 p1 p2 p3 q0 q1 q2 q3
        clear hm
        go_wp2_with fail
        go_quiet (fail)
        go_wp2
        go_roundg (n - (i + 1))
        case measure => omega
        case rel => exact ⟨i + 1, by omega, by go_num, below_drewN hbr _⟩
      · have e : i = n := by omega
        subst e
        go_wp2
        go_ret
        exact ⟨rfl, hbr⟩
end Go.Proofs.Qxb6500877aGreatDoor
