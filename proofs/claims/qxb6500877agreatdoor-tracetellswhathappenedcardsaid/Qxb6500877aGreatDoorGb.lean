import Derived.Deep.CutBlock
import Derived.OwnWalk
import Derived.Test.Qxb6500877aGreatDoorGa
set_option linter.unusedVariables false
set_option linter.unusedSimpArgs false
namespace Go.Proofs.Qxb6500877aGreatDoor
open Go.RowKit

theorem NetAt.num {w : World} {B : Nat} {s : Net} (h : NetAt w B s) {i : Nat} (hi : i < 16) : w.cell? ⟨B, 1939 + i * 291 + 289, none⟩ = some (.int .i64 (s.box i).n) := by
  have := h.cell (i * 291 + 289) (by omega)
  rw [show 1939 + i * 291 + 289 = 1939 + (i * 291 + 289) by omega, this]
  unfold Net.enc
  first | (rw [if_pos (by omega), show (i * 291 + 289) / 291 = i by omega, show (i * 291 + 289) % 291 = 289 by omega]; rfl) | (simp; rfl)
set_option maxHeartbeats 1000000 in
theorem validBox_any {i : Nat} (hi : i < 16) (w : World) : Calls Tryz.prog 97 #[.int .i64 (i : Int)] w fun e w' => e = .returned (.bool true) ∧ w' = w := by
  have i0 : (i : Int) ≥ 0 := by omega
  have i1 : (i : Int) < 16 := by omega
  go_enter Tryz.func97, Tryz.ntmps97
  go_wp2
  go_ret
  exact ⟨rfl, rfl⟩
set_option maxHeartbeats 1000000 in
theorem pending_b {w : World} {B : Nat} {s : Net} (h : NetAt w B s) {i : Nat} (hi : i < 16) : Calls Tryz.prog 34 #[.pointer (some ⟨B, 0, none⟩), .int .i64 (i : Int)] w fun e w' => e = .returned (.int .i64 (s.box i).n) ∧ w' = w := by
  have k0 := h.num hi
  have i0 : (0 : Int) ≤ i := by omega
  have i1 : (i : Int) < 16 := by omega
  generalize (s.box i).n = n at k0
  go_enter Tryz.func34, Tryz.ntmps34
  go_wp2_with fail
  refine (validBox_any hi w).mono ?_
  rintro e w1 ⟨rfl, rfl⟩
  go_wp2
  go_ret
  exact ⟨rfl, rfl⟩
set_option maxHeartbeats 1000000 in
theorem room_any {w : World} {B o : Nat} {n : Int} (k0 : w.cell? ⟨B, o + 289, none⟩ = some (.int .i64 n)) (n0 : 0 ≤ n) (n1 : n ≤ 32) : Calls Tryz.prog 99 #[.pointer (some ⟨B, o, none⟩)] w fun e w' => e = .returned (.int .i64 (32 - n)) ∧ w' = w := by
  have hw : IntKind.i64.wrap (32 - n) = 32 - n := by rw [IntKind.wrap_i64]; omega
  go_enter Tryz.func99, Tryz.ntmps99
  go_wp2
  go_ret
  exact ⟨by first | rfl | rw [hw], rfl⟩
set_option maxHeartbeats 2000000 in
theorem room_b {w : World} {B : Nat} {s : Net} (h : NetAt w B s) {i : Nat} (hi : i < 16) (n0 : 0 ≤ (s.box i).n) (n1 : (s.box i).n ≤ 32) : Calls Tryz.prog 35 #[.pointer (some ⟨B, 0, none⟩), .int .i64 ((i / 4 : Nat) : Int), .int .i64 ((i % 4 : Nat) : Int)] w fun e w' => e = .returned (.int .i64 (32 - (s.box i).n)) ∧ Below w.heap.size w w' := by
  have k0 := h.num hi
  have i0 : (0 : Int) ≤ i := by omega
  have i1 : (i : Int) < 16 := by omega
  generalize (s.box i).n = n at k0 n0 n1
  have ha : i / 4 < 4 := by omega
  have hb : i % 4 < 4 := by omega
  have hbx : ∀ w, Calls Tryz.prog 96 #[.int .i64 ((i / 4 : Nat) : Int), .int .i64 ((i % 4 : Nat) : Int)] w fun e w' => e = .returned (.int .i64 (i : Int)) ∧ w' = w := fun w => by
    have := box_any (w := w) ha hb
    rw [show i / 4 * 4 + i % 4 = i by omega] at this
    exact this
  have v1 := validCore_any ((i / 4 : Nat) : Int) w
  have v2 := validCore_any ((i % 4 : Nat) : Int) w
  rw [decide_eq_true (by omega)] at v1 v2
  generalize i / 4 = x at *
  generalize i % 4 = y at *
  go_enter Tryz.func35, Tryz.ntmps35
  go_wp2_with fail
  refine v1.mono ?_
  rintro e w1 ⟨rfl, rfl⟩
  go_wp2_with fail
  refine v2.mono ?_
  rintro e w1 ⟨rfl, rfl⟩
  go_upto_region 3 with fail
  refine wp_region_held_drew (S := (fun w' => w'.cell? ⟨B, 1939 + i * 291 + 289, none⟩ = some (.int .i64 n))) (by kernel_rfl) k0 (fun hHeld => ?_)
  refine wpAnyH_take (i := 0) (oi := { dst := some 15, op := Go.Op.move (Go.Operand.tmp 0), type := 24, pos := _, after := #[], guard := none }) (v := ?vv1) rfl (by kernel_rfl) (by kernel_rfl) (by kernel_rfl) (fun _ _ _ h => h) (Or.inl ⟨by rfl, ?hy1⟩) (by assumption) ?tk1
  case hy1 => (intro w hSw; (try dsimp only at hSw); go_simp; (try with_reducible rfl))
  try simp only [Act.put, List.setIfInBounds_toArray, List.set_cons_zero, List.set_cons_succ]
  refine wpAnyH_take (i := 1) (oi := { dst := some 16, op := Go.Op.move (Go.Operand.tmp 1), type := 34, pos := _, after := #[], guard := none }) (v := ?vv2) rfl (by kernel_rfl) (by kernel_rfl) (by kernel_rfl) (fun _ _ _ h => h) (Or.inl ⟨by rfl, ?hy2⟩) (by assumption) ?tk2
  case hy2 => (intro w hSw; (try dsimp only at hSw); go_simp; (try with_reducible rfl))
  try simp only [Act.put, List.setIfInBounds_toArray, List.set_cons_zero, List.set_cons_succ]
  refine wpAnyH_take (i := 2) (oi := { dst := some 17, op := Go.Op.move (Go.Operand.tmp 2), type := 34, pos := _, after := #[], guard := none }) (v := ?vv3) rfl (by kernel_rfl) (by kernel_rfl) (by kernel_rfl) (fun _ _ _ h => h) (Or.inl ⟨by rfl, ?hy3⟩) (by assumption) ?tk3
  case hy3 => (intro w hSw; (try dsimp only at hSw); go_simp; (try with_reducible rfl))
  try simp only [Act.put, List.setIfInBounds_toArray, List.set_cons_zero, List.set_cons_succ]
  refine wpAnyH_take (i := 4) (oi := { dst := some 19, op := Go.Op.nilCheck (Go.Operand.tmp 15), type := 0, pos := _, after := #[{ on := 0, ground := Go.Ground.data }], guard := none }) (v := ?vv4) rfl (by kernel_rfl) (by kernel_rfl) (by kernel_rfl) (fun _ _ _ h => h) (Or.inl ⟨by rfl, ?hy4⟩) (by assumption) ?tk4
  case hy4 => (intro w hSw; (try dsimp only at hSw); go_simp; (try with_reducible rfl))
  try simp only [Act.put, List.setIfInBounds_toArray, List.set_cons_zero, List.set_cons_succ]
  refine wpAnyH_take (i := 5) (oi := { dst := some 20, op := Go.Op.fieldAddr 190 (Go.Operand.tmp 19) 2, type := 0, pos := _, after := #[{ on := 4, ground := Go.Ground.data }], guard := none }) (v := ?vv5) rfl (by kernel_rfl) (by kernel_rfl) (by kernel_rfl) (fun _ _ _ h => h) (Or.inl ⟨by rfl, ?hy5⟩) (by assumption) ?tk5
  case hy5 => (intro w hSw; (try dsimp only at hSw); go_simp; (try with_reducible rfl))
  try simp only [Act.put, List.setIfInBounds_toArray, List.set_cons_zero, List.set_cons_succ]
  refine wpAnyH_take (i := 6) (oi := { dst := some 21, op := Go.Op.fieldAddr 175 (Go.Operand.tmp 20) 0, type := 0, pos := _, after := #[{ on := 5, ground := Go.Ground.data }], guard := none }) (v := ?vv6) rfl (by kernel_rfl) (by kernel_rfl) (by kernel_rfl) (fun _ _ _ h => h) (Or.inl ⟨by rfl, ?hy6⟩) (by assumption) ?tk6
  case hy6 => (intro w hSw; (try dsimp only at hSw); go_simp; (try with_reducible rfl))
  try simp only [Act.put, List.setIfInBounds_toArray, List.set_cons_zero, List.set_cons_succ]
  refine wpAnyH_ready (rs := [3]) (by kernel_rfl) (by simp) ?_
  refine AllReadyH.cons (o := { dst := some 18, op := Go.Op.call { callee := Go.Callee.value (Go.Operand.func 96), args := #[Go.Operand.tmp 16, Go.Operand.tmp 17], argTypes := #[34, 34] }, type := 65, pos := _, after := #[{ on := 1, ground := Go.Ground.data }, { on := 2, ground := Go.Ground.data }], guard := none }) rfl (fun K' hK' => ?_) AllReadyH.nil
  go_simp
  go_at_call 96
  refine (hbx _).mono ?_
  rintro e w1 ⟨rfl, rfl⟩
  clear hHeld
  refine hK'.out _ _ k0 (fun hHeld => ?_)
  clear hK' K'
  try simp only [Act.put, List.setIfInBounds_toArray, List.set_cons_zero, List.set_cons_succ]
  refine wpAnyH_take (i := 7) (oi := { dst := some 22, op := Go.Op.indexAddr 172 (Go.Operand.tmp 21) (Go.Operand.tmp 18), type := 0, pos := _, after := #[{ on := 6, ground := Go.Ground.data }, { on := 3, ground := Go.Ground.data }], guard := none }) (v := ?vv7) rfl (by kernel_rfl) (by kernel_rfl) (by kernel_rfl) (fun _ _ _ h => h) (Or.inl ⟨by rfl, ?hy7⟩) (by assumption) ?tk7
  case hy7 => (intro w hSw; (try dsimp only at hSw); go_simp; (try with_reducible rfl))
  try simp only [Act.put, List.setIfInBounds_toArray, List.set_cons_zero, List.set_cons_succ]
  refine wpAnyH_ready (rs := [8]) (by kernel_rfl) (by simp) ?_
  refine AllReadyH.cons (o := { dst := some 23, op := Go.Op.call { callee := Go.Callee.value (Go.Operand.func 99), args := #[Go.Operand.tmp 22], argTypes := #[171] }, type := 3, pos := _, after := #[{ on := 7, ground := Go.Ground.data }, { on := 3, ground := Go.Ground.chain }], guard := none }) rfl (fun K' hK' => ?_) AllReadyH.nil
  go_simp
  go_at_call 99
  refine (room_any (w := _) (n := n) (by exact k0) n0 n1).mono ?_
  rintro e w1 ⟨rfl, rfl⟩
  clear hHeld
  refine hK'.out _ _ k0 (fun hHeld => ?_)
  clear hK' K'
  try simp only [Act.put, List.setIfInBounds_toArray, List.set_cons_zero, List.set_cons_succ]
  refine wpAnyH_take (i := 9) (oi := { dst := some 6, op := Go.Op.assign (Go.Operand.tmp 23), type := 3, pos := _, after := #[{ on := 8, ground := Go.Ground.data }, { on := 8, ground := Go.Ground.chain }, { on := 0, ground := Go.Ground.phase }, { on := 1, ground := Go.Ground.phase }, { on := 2, ground := Go.Ground.phase }, { on := 3, ground := Go.Ground.phase }, { on := 4, ground := Go.Ground.phase }, { on := 5, ground := Go.Ground.phase }, { on := 6, ground := Go.Ground.phase }, { on := 7, ground := Go.Ground.phase }, { on := 8, ground := Go.Ground.phase }], guard := none }) (v := ?vv8) rfl (by kernel_rfl) (by kernel_rfl) (by kernel_rfl) (fun _ _ _ h => h) (Or.inl ⟨by rfl, ?hy8⟩) (by assumption) ?tk8
  case hy8 => (intro w hSw; (try dsimp only at hSw); go_simp; (try with_reducible rfl))
  try simp only [Act.put, List.setIfInBounds_toArray, List.set_cons_zero, List.set_cons_succ]
  refine wpAnyH_done (by kernel_rfl) ?_ _
  go_wp2
  go_ret
  exact ⟨rfl, (Below.refl _ _).drew⟩
end Go.Proofs.Qxb6500877aGreatDoor
