import Derived.Test.Qxb6500877aGreatDoorWf0
set_option linter.unusedVariables false
set_option linter.unusedSimpArgs false
namespace Go.Proofs.Qxb6500877aGreatDoor
open Go.RowKit

set_option maxHeartbeats 4000000 in
theorem unlink_slot_A {w : World} {B : Nat} {s : Wheel} {i k z : Nat} (H : WheelAt w B s) (hi : i < 64) (hk : k < 11) (hz : z < 64) (elv : (s.nd i).lv = k) (esl : (s.nd i).sl = z) (ep : (s.nd i).pv = -1) (en : (s.nd i).nx = -1) :
    Calls Tryz.prog 184 #[.pointer (some ⟨B, 1, none⟩), .int .i16 (i : Int)] w fun e w' => e = .returned (.tuple #[]) ∧ WheelAt w' B (unlEnd ((unlA s (some (k, z))).setOcc k (notOcc (s.occ k) z)) i) ∧ Mut B 1 1939 w w' := by
  obtain ⟨_, _, _, _, i4, i5, i6, i7⟩ := H.node hi
  obtain ⟨l0, l1⟩ := H.list (r := some (k, z)) ⟨hk, hz⟩
  have l0' : w.cell? ⟨B, 520 + k * 128 + z * 2, none⟩ = some (.int .i16 (s.lh (some (k, z)))) := l0
  have l1' : w.cell? ⟨B, 520 + k * 128 + z * 2 + 1, none⟩ = some (.int .i16 (s.lt (some (k, z)))) := l1
  clear l0 l1
  rw [ep] at i4
  rw [en] at i5
  rw [elv] at i6
  have i0 : (0 : Int) ≤ i := by omega
  have i1 : (i : Int) < 64 := by omega
  have fz := H.frz
  rw [esl] at i7
  have j0 : (0 : Int) ≤ k := by omega
  have j1 : (k : Int) < 11 := by omega
  have l0 : (0 : Int) ≤ z := by omega
  have l1 : (z : Int) < 64 := by omega
  have o1 := H.bits hk
  have hwz : IntKind.u64.wrap (z : Int) = z := wrap_u64 (by omega)
  have n0 : ¬ (520 + k * 128 + z * 2 = 2 + i * 8 + 4) := by omega
  have n1 : ¬ (2 + i * 8 + 4 = 520 + k * 128 + z * 2) := by omega
  have n2 : ¬ (520 + k * 128 + z * 2 = 2 + i * 8 + 5) := by omega
  have n3 : ¬ (2 + i * 8 + 5 = 520 + k * 128 + z * 2) := by omega
  have n4 : ¬ (520 + k * 128 + z * 2 = 2 + i * 8 + 6) := by omega
  have n5 : ¬ (2 + i * 8 + 6 = 520 + k * 128 + z * 2) := by omega
  have n6 : ¬ (520 + k * 128 + z * 2 = 2 + i * 8 + 7) := by omega
  have n7 : ¬ (2 + i * 8 + 7 = 520 + k * 128 + z * 2) := by omega
  have n8 : ¬ (520 + k * 128 + z * 2 = 520 + k * 128 + z * 2 + 1) := by omega
  have n9 : ¬ (520 + k * 128 + z * 2 + 1 = 520 + k * 128 + z * 2) := by omega
  have n10 : ¬ (520 + k * 128 + z * 2 = 1928 + k) := by omega
  have n11 : ¬ (1928 + k = 520 + k * 128 + z * 2) := by omega
  have n12 : ¬ (520 + k * 128 + z * 2 + 1 = 2 + i * 8 + 4) := by omega
  have n13 : ¬ (2 + i * 8 + 4 = 520 + k * 128 + z * 2 + 1) := by omega
  have n14 : ¬ (520 + k * 128 + z * 2 + 1 = 2 + i * 8 + 5) := by omega
  have n15 : ¬ (2 + i * 8 + 5 = 520 + k * 128 + z * 2 + 1) := by omega
  have n16 : ¬ (520 + k * 128 + z * 2 + 1 = 2 + i * 8 + 6) := by omega
  have n17 : ¬ (2 + i * 8 + 6 = 520 + k * 128 + z * 2 + 1) := by omega
  have n18 : ¬ (520 + k * 128 + z * 2 + 1 = 2 + i * 8 + 7) := by omega
  have n19 : ¬ (2 + i * 8 + 7 = 520 + k * 128 + z * 2 + 1) := by omega
  have n20 : ¬ (520 + k * 128 + z * 2 + 1 = 1928 + k) := by omega
  have n21 : ¬ (1928 + k = 520 + k * 128 + z * 2 + 1) := by omega
  have n22 : ¬ (1928 + k = 2 + i * 8 + 4) := by omega
  have n23 : ¬ (2 + i * 8 + 4 = 1928 + k) := by omega
  have n24 : ¬ (1928 + k = 2 + i * 8 + 5) := by omega
  have n25 : ¬ (2 + i * 8 + 5 = 1928 + k) := by omega
  have n26 : ¬ (1928 + k = 2 + i * 8 + 6) := by omega
  have n27 : ¬ (2 + i * 8 + 6 = 1928 + k) := by omega
  have n28 : ¬ (1928 + k = 2 + i * 8 + 7) := by omega
  have n29 : ¬ (2 + i * 8 + 7 = 1928 + k) := by omega
  have n30 : ¬ (2 + i * 8 + 4 = 2 + i * 8 + 5) := by omega
  have n31 : ¬ (2 + i * 8 + 5 = 2 + i * 8 + 4) := by omega
  have n32 : ¬ (2 + i * 8 + 4 = 2 + i * 8 + 6) := by omega
  have n33 : ¬ (2 + i * 8 + 6 = 2 + i * 8 + 4) := by omega
  have n34 : ¬ (2 + i * 8 + 4 = 2 + i * 8 + 7) := by omega
  have n35 : ¬ (2 + i * 8 + 7 = 2 + i * 8 + 4) := by omega
  have n36 : ¬ (2 + i * 8 + 5 = 2 + i * 8 + 6) := by omega
  have n37 : ¬ (2 + i * 8 + 6 = 2 + i * 8 + 5) := by omega
  have n38 : ¬ (2 + i * 8 + 5 = 2 + i * 8 + 7) := by omega
  have n39 : ¬ (2 + i * 8 + 7 = 2 + i * 8 + 5) := by omega
  have n40 : ¬ (2 + i * 8 + 6 = 2 + i * 8 + 7) := by omega
  have n41 : ¬ (2 + i * 8 + 7 = 2 + i * 8 + 6) := by omega
  go_enter Tryz.func184, Tryz.ntmps184
  go_wp2
  go_region_held3 (fun w' => w'.cell? ⟨B, 2 + i * 8 + 6, none⟩ = some (.int .i8 (k : Int)) ∧ w'.cell? ⟨B, 2 + i * 8 + 7, none⟩ = some (.int .u8 (z : Int))) (exact ⟨i6, i7⟩) (fail)
  go_wp2_with fail
  refine (listEmpty_any (v := (-1)) (by go_simp)).mono ?_
  rintro e w1 ⟨rfl, hw1⟩
  subst hw1
  go_wp2_with fail
  refine wp_region_held_drew (S := (fun w' => w'.cell? ⟨B, 2 + i * 8 + 6, none⟩ = some (.int .i8 (k : Int)) ∧ w'.cell? ⟨B, 2 + i * 8 + 7, none⟩ = some (.int .u8 (z : Int)))) (by kernel_rfl) (by refine ⟨?_, ?_⟩ <;> go_simp) (fun hHeld => ?_)
  refine wpAnyH_take (i := 0) (oi := { dst := some 91, op := Go.Op.move (Go.Operand.tmp 0), type := 212, pos := _, after := #[], guard := none }) (v := ?vv1) rfl (by kernel_rfl) (by kernel_rfl) (by kernel_rfl) (fun _ _ _ h => h) (Or.inl ⟨by rfl, ?hy1⟩) (by assumption) ?tk1
  case hy1 => (intro w hSw; (try dsimp only at hSw); go_simp; (try with_reducible rfl))
  try simp only [Act.put, List.setIfInBounds_toArray, List.set_cons_zero, List.set_cons_succ]
  refine wpAnyH_take (i := 1) (oi := { dst := some 92, op := Go.Op.move (Go.Operand.tmp 4), type := 302, pos := _, after := #[], guard := none }) (v := ?vv2) rfl (by kernel_rfl) (by kernel_rfl) (by kernel_rfl) (fun _ _ _ h => h) (Or.inl ⟨by rfl, ?hy2⟩) (by assumption) ?tk2
  case hy2 => (intro w hSw; (try dsimp only at hSw); go_simp; (try with_reducible rfl))
  try simp only [Act.put, List.setIfInBounds_toArray, List.set_cons_zero, List.set_cons_succ]
  refine wpAnyH_take (i := 2) (oi := { dst := some 93, op := Go.Op.nilCheck (Go.Operand.tmp 92), type := 0, pos := _, after := #[{ on := 1, ground := Go.Ground.data }], guard := none }) (v := ?vv3) rfl (by kernel_rfl) (by kernel_rfl) (by kernel_rfl) (fun _ _ _ h => h) (Or.inl ⟨by rfl, ?hy3⟩) (by assumption) ?tk3
  case hy3 => (intro w hSw; (try dsimp only at hSw); go_simp; (try with_reducible rfl))
  try simp only [Act.put, List.setIfInBounds_toArray, List.set_cons_zero, List.set_cons_succ]
  refine wpAnyH_take (i := 3) (oi := { dst := some 94, op := Go.Op.fieldAddr 159 (Go.Operand.tmp 93) 3, type := 0, pos := _, after := #[{ on := 2, ground := Go.Ground.data }], guard := none }) (v := ?vv4) rfl (by kernel_rfl) (by kernel_rfl) (by kernel_rfl) (fun _ _ _ h => h) (Or.inl ⟨by rfl, ?hy4⟩) (by assumption) ?tk4
  case hy4 => (intro w hSw; (try dsimp only at hSw); go_simp; (try with_reducible rfl))
  try simp only [Act.put, List.setIfInBounds_toArray, List.set_cons_zero, List.set_cons_succ]
  refine wpAnyH_take (i := 4) (oi := { dst := some 95, op := Go.Op.load 157 (Go.Operand.tmp 94), type := 157, pos := _, after := #[{ on := 3, ground := Go.Ground.data }], guard := none }) (v := ?vv5) rfl (by kernel_rfl) (by kernel_rfl) (by kernel_rfl) (fun _ _ _ h => h) (Or.inl ⟨by rfl, ?hy5⟩) (by assumption) ?tk5
  case hy5 => (intro w hSw; (try dsimp only at hSw); go_simp; (try with_reducible rfl))
  try simp only [Act.put, List.setIfInBounds_toArray, List.set_cons_zero, List.set_cons_succ]
  refine wpAnyH_take (i := 5) (oi := { dst := some 96, op := Go.Op.nilCheck (Go.Operand.tmp 91), type := 0, pos := _, after := #[{ on := 0, ground := Go.Ground.data }], guard := none }) (v := ?vv6) rfl (by kernel_rfl) (by kernel_rfl) (by kernel_rfl) (fun _ _ _ h => h) (Or.inl ⟨by rfl, ?hy6⟩) (by assumption) ?tk6
  case hy6 => (intro w hSw; (try dsimp only at hSw); go_simp; (try with_reducible rfl))
  try simp only [Act.put, List.setIfInBounds_toArray, List.set_cons_zero, List.set_cons_succ]
  refine wpAnyH_take (i := 6) (oi := { dst := some 97, op := Go.Op.fieldAddr 168 (Go.Operand.tmp 96) 8, type := 0, pos := _, after := #[{ on := 5, ground := Go.Ground.data }], guard := none }) (v := ?vv7) rfl (by kernel_rfl) (by kernel_rfl) (by kernel_rfl) (fun _ _ _ h => h) (Or.inl ⟨by rfl, ?hy7⟩) (by assumption) ?tk7
  case hy7 => (intro w hSw; (try dsimp only at hSw); go_simp; (try with_reducible rfl))
  try simp only [Act.put, List.setIfInBounds_toArray, List.set_cons_zero, List.set_cons_succ]
  refine wpAnyH_take (i := 7) (oi := { dst := some 98, op := Go.Op.indexAddr 166 (Go.Operand.tmp 97) (Go.Operand.tmp 95), type := 0, pos := _, after := #[{ on := 6, ground := Go.Ground.data }, { on := 4, ground := Go.Ground.data }], guard := none }) (v := ?vv8) rfl (by kernel_rfl) (by kernel_rfl) (by kernel_rfl) (fun _ _ _ h => h) (Or.inl ⟨by rfl, ?hy8⟩) (by assumption) ?tk8
  case hy8 => (intro w hSw; (try dsimp only at hSw); go_simp; (try with_reducible rfl))
  try simp only [Act.put, List.setIfInBounds_toArray, List.set_cons_zero, List.set_cons_succ]
  refine wpAnyH_take (i := 9) (oi := { dst := some 100, op := Go.Op.move (Go.Operand.tmp 4), type := 302, pos := _, after := #[], guard := none }) (v := ?vv9) rfl (by kernel_rfl) (by kernel_rfl) (by kernel_rfl) (fun _ _ _ h => h) (Or.inl ⟨by rfl, ?hy9⟩) (by assumption) ?tk9
  case hy9 => (intro w hSw; (try dsimp only at hSw); go_simp; (try with_reducible rfl))
  try simp only [Act.put, List.setIfInBounds_toArray, List.set_cons_zero, List.set_cons_succ]
  refine wpAnyH_take (i := 10) (oi := { dst := some 101, op := Go.Op.nilCheck (Go.Operand.tmp 100), type := 0, pos := _, after := #[{ on := 9, ground := Go.Ground.data }], guard := none }) (v := ?vv10) rfl (by kernel_rfl) (by kernel_rfl) (by kernel_rfl) (fun _ _ _ h => h) (Or.inl ⟨by rfl, ?hy10⟩) (by assumption) ?tk10
  case hy10 => (intro w hSw; (try dsimp only at hSw); go_simp; (try with_reducible rfl))
  try simp only [Act.put, List.setIfInBounds_toArray, List.set_cons_zero, List.set_cons_succ]
  refine wpAnyH_take (i := 11) (oi := { dst := some 102, op := Go.Op.fieldAddr 159 (Go.Operand.tmp 101) 4, type := 0, pos := _, after := #[{ on := 10, ground := Go.Ground.data }], guard := none }) (v := ?vv11) rfl (by kernel_rfl) (by kernel_rfl) (by kernel_rfl) (fun _ _ _ h => h) (Or.inl ⟨by rfl, ?hy11⟩) (by assumption) ?tk11
  case hy11 => (intro w hSw; (try dsimp only at hSw); go_simp; (try with_reducible rfl))
  try simp only [Act.put, List.setIfInBounds_toArray, List.set_cons_zero, List.set_cons_succ]
  refine wpAnyH_take (i := 12) (oi := { dst := some 103, op := Go.Op.load 5 (Go.Operand.tmp 102), type := 5, pos := _, after := #[{ on := 11, ground := Go.Ground.data }], guard := none }) (v := ?vv12) rfl (by kernel_rfl) (by kernel_rfl) (by kernel_rfl) (fun _ _ _ h => h) (Or.inl ⟨by rfl, ?hy12⟩) (by assumption) ?tk12
  case hy12 => (intro w hSw; (try dsimp only at hSw); go_simp; (try with_reducible rfl))
  try simp only [Act.put, List.setIfInBounds_toArray, List.set_cons_zero, List.set_cons_succ]
  refine wpAnyH_take (i := 13) (oi := { dst := some 104, op := Go.Op.convert 5 275 (Go.Operand.tmp 103), type := 275, pos := _, after := #[{ on := 12, ground := Go.Ground.data }], guard := none }) (v := ?vv13) rfl (by kernel_rfl) (by kernel_rfl) (by kernel_rfl) (fun _ _ _ h => h) (Or.inl ⟨by rfl, ?hy13⟩) (by assumption) ?tk13
  case hy13 => (intro w hSw; (try dsimp only at hSw); go_simp; (try with_reducible rfl))
  try simp only [Act.put, List.setIfInBounds_toArray, List.set_cons_zero, List.set_cons_succ]
  refine wpAnyH_take (i := 14) (oi := { dst := some 105, op := Go.Op.binOp Go.BinOp.shl 28 (Go.Operand.const (Go.Value.int Go.IntKind.u64 1)) (Go.Operand.tmp 104) 275, type := 28, pos := _, after := #[{ on := 13, ground := Go.Ground.data }], guard := none }) (v := ?vv14) rfl (by kernel_rfl) (by kernel_rfl) (by kernel_rfl) (fun _ _ _ h => h) (Or.inl ⟨by rfl, ?hy14⟩) (by assumption) ?tk14
  case hy14 => (intro w hSw; (try dsimp only at hSw); go_simp; (try with_reducible rfl))
  try simp only [Act.put, List.setIfInBounds_toArray, List.set_cons_zero, List.set_cons_succ]
  refine wpAnyH_take (i := 16) (oi := { dst := some 107, op := Go.Op.nilCheck (Go.Operand.tmp 91), type := 0, pos := _, after := #[{ on := 0, ground := Go.Ground.data }], guard := none }) (v := ?vv15) rfl (by kernel_rfl) (by kernel_rfl) (by kernel_rfl) (fun _ _ _ h => h) (Or.inl ⟨by rfl, ?hy15⟩) (by assumption) ?tk15
  case hy15 => (intro w hSw; (try dsimp only at hSw); go_simp; (try with_reducible rfl))
  try simp only [Act.put, List.setIfInBounds_toArray, List.set_cons_zero, List.set_cons_succ]
  refine wpAnyH_take (i := 17) (oi := { dst := some 108, op := Go.Op.fieldAddr 168 (Go.Operand.tmp 107) 8, type := 0, pos := _, after := #[{ on := 16, ground := Go.Ground.data }], guard := none }) (v := ?vv16) rfl (by kernel_rfl) (by kernel_rfl) (by kernel_rfl) (fun _ _ _ h => h) (Or.inl ⟨by rfl, ?hy16⟩) (by assumption) ?tk16
  case hy16 => (intro w hSw; (try dsimp only at hSw); go_simp; (try with_reducible rfl))
  try simp only [Act.put, List.setIfInBounds_toArray, List.set_cons_zero, List.set_cons_succ]
  refine wpAnyH_ready (rs := [8]) (by kernel_rfl) (by simp) ?_
  refine AllReadyH.cons (o := { dst := some 99, op := Go.Op.load 28 (Go.Operand.tmp 98), type := 28, pos := _, after := #[{ on := 7, ground := Go.Ground.data }], guard := none }) rfl (fun K' hK' => ?_) AllReadyH.nil
  go_simp
  clear hHeld
  refine hK'.out _ _ (by refine ⟨?_, ?_⟩ <;> go_simp) (fun hHeld => ?_)
  clear hK' K'
  try simp only [Act.put, List.setIfInBounds_toArray, List.set_cons_zero, List.set_cons_succ]
  refine wpAnyH_take (i := 15) (oi := { dst := some 106, op := Go.Op.binOp Go.BinOp.andNot 28 (Go.Operand.tmp 99) (Go.Operand.tmp 105) 28, type := 28, pos := _, after := #[{ on := 8, ground := Go.Ground.data }, { on := 14, ground := Go.Ground.data }], guard := none }) (v := ?vv17) rfl (by kernel_rfl) (by kernel_rfl) (by kernel_rfl) (fun _ _ _ h => h) (Or.inl ⟨by rfl, ?hy17⟩) (by assumption) ?tk17
  case hy17 => (intro w hSw; (try dsimp only at hSw); go_simp; (try with_reducible rfl))
  try simp only [Act.put, List.setIfInBounds_toArray, List.set_cons_zero, List.set_cons_succ]
  refine wpAnyH_take (i := 18) (oi := { dst := some 109, op := Go.Op.indexAddr 166 (Go.Operand.tmp 108) (Go.Operand.tmp 95), type := 0, pos := _, after := #[{ on := 17, ground := Go.Ground.data }, { on := 4, ground := Go.Ground.data }, { on := 0, ground := Go.Ground.phase }, { on := 1, ground := Go.Ground.phase }, { on := 2, ground := Go.Ground.phase }, { on := 3, ground := Go.Ground.phase }, { on := 4, ground := Go.Ground.phase }, { on := 5, ground := Go.Ground.phase }, { on := 6, ground := Go.Ground.phase }, { on := 7, ground := Go.Ground.phase }, { on := 8, ground := Go.Ground.phase }, { on := 9, ground := Go.Ground.phase }, { on := 10, ground := Go.Ground.phase }, { on := 11, ground := Go.Ground.phase }, { on := 12, ground := Go.Ground.phase }, { on := 13, ground := Go.Ground.phase }, { on := 14, ground := Go.Ground.phase }, { on := 15, ground := Go.Ground.phase }], guard := none }) (v := ?vv18) rfl (by kernel_rfl) (by kernel_rfl) (by kernel_rfl) (fun _ _ _ h => h) (Or.inl ⟨by rfl, ?hy18⟩) (by assumption) ?tk18
  case hy18 => (intro w hSw; (try dsimp only at hSw); go_simp; (try with_reducible rfl))
  try simp only [Act.put, List.setIfInBounds_toArray, List.set_cons_zero, List.set_cons_succ]
  refine wpAnyH_ready (rs := [19]) (by kernel_rfl) (by simp) ?_
  refine AllReadyH.cons (o := { dst := none, op := Go.Op.store 28 (Go.Operand.tmp 109) (Go.Operand.tmp 106), type := 0, pos := _, after := #[{ on := 18, ground := Go.Ground.data }, { on := 15, ground := Go.Ground.data }, { on := 0, ground := Go.Ground.phase }, { on := 1, ground := Go.Ground.phase }, { on := 2, ground := Go.Ground.phase }, { on := 3, ground := Go.Ground.phase }, { on := 4, ground := Go.Ground.phase }, { on := 5, ground := Go.Ground.phase }, { on := 6, ground := Go.Ground.phase }, { on := 7, ground := Go.Ground.phase }, { on := 8, ground := Go.Ground.phase }, { on := 9, ground := Go.Ground.phase }, { on := 10, ground := Go.Ground.phase }, { on := 11, ground := Go.Ground.phase }, { on := 12, ground := Go.Ground.phase }, { on := 13, ground := Go.Ground.phase }, { on := 14, ground := Go.Ground.phase }, { on := 15, ground := Go.Ground.phase }], guard := none }) rfl (fun K' hK' => ?_) AllReadyH.nil
  go_simp
  clear hHeld
  refine hK'.out _ _ (by refine ⟨?_, ?_⟩ <;> go_simp) (fun hHeld => ?_)
  clear hK' K'
  try simp only [Act.put, List.setIfInBounds_toArray, List.set_cons_zero, List.set_cons_succ]
  refine wpAnyH_done (by kernel_rfl) ?_ _
  go_wp2
  (try go_wp2)
  go_end0
  exact ⟨rfl, (((((((H.putLh (r := some (k, z)) ⟨hk, hz⟩ _).putLt (r := some (k, z)) ⟨hk, hz⟩ _).putOcc hk _).putPv hi _).putNx hi _).putLv hi _).putSl hi _).drew.drew, ((((((((Mut.refl B 1 1939 _).setCell (by omega) (by omega) _).setCell (by omega) (by omega) _).setCell (by omega) (by omega) _).setCell (by omega) (by omega) _).setCell (by omega) (by omega) _).setCell (by omega) (by omega) _).setCell (by omega) (by omega) _).drew.drew⟩

end Go.Proofs.Qxb6500877aGreatDoor
