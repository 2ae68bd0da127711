import Derived.Test.Qxb6500877aGreatDoorBn
set_option linter.unusedVariables false
set_option linter.unusedSimpArgs false
namespace Go.Proofs.Qxb6500877aGreatDoor
open Go.RowKit

def plc (h j : Nat) : Nat := if 32 ≤ h + j then h + j - 32 else h + j
theorem plc_lt {h j : Nat} (hh : h < 32) (hj : j ≤ 32) : plc h j < 32 := by unfold plc; split <;> omega
def msgV (m : MsgV) : Value := .agg #[.int .i64 m.mf, .int .i64 m.mt, .int .u32 m.md, .int .u64 m.mq, .int .u64 m.ma, .int .u64 m.x0, .int .u64 m.x1, .int .u64 m.x2, .int .u64 m.x3]

set_option maxHeartbeats 1000000 in
theorem empty_any {w : World} {B : Nat} {s : Net} {i : Nat} (H : NetAt w B s) (hi : i < 16) :
    Calls Tryz.prog 179 #[.pointer (some ⟨B, 1939 + i * 291, none⟩)] w fun e w' => e = .returned (.bool (decide ((s.box i).n = 0))) ∧ w' = w := by
  obtain ⟨c0, c1, c2⟩ := H.ctl hi
  go_enter Tryz.func179, Tryz.ntmps179
  go_wp2
  go_ret
  refine ⟨?_, rfl⟩
  by_cases h : (s.box i).n = 0 <;> simp [h]

set_option maxHeartbeats 1000000 in
theorem mfull_any {w : World} {B : Nat} {s : Net} {i : Nat} (H : NetAt w B s) (hi : i < 16) :
    Calls Tryz.prog 205 #[.pointer (some ⟨B, 1939 + i * 291, none⟩)] w fun e w' => e = .returned (.bool (decide ((s.box i).n = 32))) ∧ w' = w := by
  obtain ⟨c0, c1, c2⟩ := H.ctl hi
  go_enter Tryz.func205, Tryz.ntmps205
  go_wp2
  go_ret
  refine ⟨?_, rfl⟩
  by_cases h : (s.box i).n = 32 <;> simp [h]

set_option maxHeartbeats 1000000 in
theorem mplace_any {w : World} {B : Nat} {s : Net} {i h j : Nat} (H : NetAt w B s) (hi : i < 16) (eh : (s.box i).head = h) (hh : h < 32) (hj : j ≤ 32) :
    Calls Tryz.prog 162 #[.pointer (some ⟨B, 1939 + i * 291, none⟩), .int .i64 (j : Int)] w fun e w' => e = .returned (.int .i64 (plc h j : Nat)) ∧ w' = w := by
  obtain ⟨c0, c1, c2⟩ := H.ctl hi
  rw [eh] at c0
  unfold plc
  by_cases h32 : 32 ≤ h + j
  · rw [if_pos h32]
    have hb : (32 : Int) ≤ (h : Int) + j := by omega
    go_enter Tryz.func162, Tryz.ntmps162
    go_wp2
    go_ret
    exact ⟨ret_int (by omega), rfl⟩
  · rw [if_neg h32]
    have hb : ¬ ((32 : Int) ≤ (h : Int) + j) := by omega
    go_enter Tryz.func162, Tryz.ntmps162
    go_wp2
    go_ret
    exact ⟨by congr 2, rfl⟩

set_option maxHeartbeats 1000000 in
theorem box_any {w : World} {a b : Nat} (ha : a < 4) (hb : b < 4) :
    Calls Tryz.prog 96 #[.int .i64 (a : Int), .int .i64 (b : Int)] w fun e w' => e = .returned (.int .i64 ((a * 4 + b : Nat) : Int)) ∧ w' = w := by
  go_enter Tryz.func96, Tryz.ntmps96
  go_wp2
  go_ret
  exact ⟨by congr 2, rfl⟩

set_option maxHeartbeats 1000000 in
theorem to_any {w : World} {i : Nat} (hi : i < 16) :
    Calls Tryz.prog 27 #[.int .i64 (i : Int)] w fun e w' => e = .returned (.int .i64 ((i % 4 : Nat) : Int)) ∧ w' = w := by
  go_enter Tryz.func27, Tryz.ntmps27
  go_wp2
  go_ret
  exact ⟨by congr 2, rfl⟩
end Go.Proofs.Qxb6500877aGreatDoor
