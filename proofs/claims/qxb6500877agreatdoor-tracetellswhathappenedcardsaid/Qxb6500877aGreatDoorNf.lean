import Derived.Test.Qxb6500877aGreatDoorNe
set_option linter.unusedVariables false
set_option linter.unusedSimpArgs false
namespace Go.Proofs.Qxb6500877aGreatDoor
open Go.RowKit

set_option maxHeartbeats 4000000 in
theorem roomForAll_any {w : World} {B : Nat} {s : Net} {a : Nat} (H : NetAt w B s) (ha : a < 4) :
    Calls Tryz.prog 181 #[.pointer (some ⟨B, 1939, none⟩), .int .i64 (a : Int)] w fun e w' => (∃ r, e = .returned (.bool r) ∧ (r = true ↔ ∀ k, k < 4 → k ≠ a → (s.box (a * 4 + k)).n ≠ 32)) ∧ Below w.heap.size w w' := by
  go_enter Tryz.func181, Tryz.ntmps181
  go_wp2
  go_loopg [5] 4 (fun g v wr => ∃ k : Nat, k + g = 4 ∧ v = .int .i64 (k : Int) ∧ Hid (∀ j, j < k → j ≠ a → (s.box (a * 4 + j)).n ≠ 32) ∧ Below w.heap.size w wr ∧ NetAt wr B s)
  case atStart => exact ⟨0, by omega, rfl, fun j hj => by omega, Below.refl _ _, H⟩
  case round =>
    obtain ⟨k, hk, rfl, HJ, hB, HR⟩ := hrel
    by_cases h4 : k < 4
    · have hk4 : (k : Int) < 4 := by omega
      by_cases hka : k = a
      · have hkb : ((k : Int) != (a : Int)) = false := by simp [hka]
        go_wp2_with fail
        refine wp_region_held_drew (S := (fun _ => True)) (by kernel_rfl) trivial (fun hHeld => ?_)
        refine wpAnyH_take (i := 0) (oi := { dst := some 10, op := Go.Op.move (Go.Operand.tmp 5), type := 34, pos := _, after := #[], guard := none }) (v := ?vv1) rfl (by kernel_rfl) (by kernel_rfl) (by kernel_rfl) (fun _ _ _ h => h) (Or.inl ⟨by rfl, ?hy1⟩) (by assumption) ?tk1
        case hy1 => (intro w hSw; (try dsimp only at hSw); go_simp; (try with_reducible rfl))
        try simp only [Act.put, List.setIfInBounds_toArray, List.set_cons_zero, List.set_cons_succ]
        refine wpAnyH_take (i := 1) (oi := { dst := some 11, op := Go.Op.move (Go.Operand.tmp 1), type := 34, pos := _, after := #[], guard := none }) (v := ?vv2) rfl (by kernel_rfl) (by kernel_rfl) (by kernel_rfl) (fun _ _ _ h => h) (Or.inl ⟨by rfl, ?hy2⟩) (by assumption) ?tk2
        case hy2 => (intro w hSw; (try dsimp only at hSw); go_simp; (try with_reducible rfl))
        try simp only [Act.put, List.setIfInBounds_toArray, List.set_cons_zero, List.set_cons_succ]
        refine wpAnyH_take (i := 2) (oi := { dst := some 12, op := Go.Op.binOp Go.BinOp.neq 34 (Go.Operand.tmp 10) (Go.Operand.tmp 11) 34, type := 4, pos := _, after := #[{ on := 0, ground := Go.Ground.data }, { on := 1, ground := Go.Ground.data }], guard := none }) (v := ?vv3) rfl (by kernel_rfl) (by kernel_rfl) (by kernel_rfl) (fun _ _ _ h => h) (Or.inl ⟨by rfl, ?hy3⟩) (by assumption) ?tk3
        case hy3 => (intro w hSw; (try dsimp only at hSw); go_simp; (try with_reducible rfl))
        try simp only [Act.put, List.setIfInBounds_toArray, List.set_cons_zero, List.set_cons_succ]
        refine wpAnyH_take (i := 3) (oi := { dst := some 13, op := Go.Op.move (Go.Operand.tmp 12), type := 4, pos := _, after := #[{ on := 2, ground := Go.Ground.data }], guard := none }) (v := ?vv4) rfl (by kernel_rfl) (by kernel_rfl) (by kernel_rfl) (fun _ _ _ h => h) (Or.inl ⟨by rfl, ?hy4⟩) (by assumption) ?tk4
        case hy4 => (intro w hSw; (try dsimp only at hSw); go_simp; (try with_reducible rfl))
        try simp only [Act.put, List.setIfInBounds_toArray, List.set_cons_zero, List.set_cons_succ]
        refine wpAnyH_take (i := 4) (oi := { dst := some 14, op := Go.Op.move (Go.Operand.tmp 0), type := 272, pos := _, after := #[{ on := 3, ground := Go.Ground.guard }], guard := some (3, true) }) (v := undef) rfl (by kernel_rfl) (by kernel_rfl) (by kernel_rfl) (fun _ _ _ h => h) (Or.inr ⟨by rfl, rfl⟩) (by assumption) ?tk5
        try simp only [Act.put, List.setIfInBounds_toArray, List.set_cons_zero, List.set_cons_succ]
        refine wpAnyH_take (i := 5) (oi := { dst := some 15, op := Go.Op.move (Go.Operand.tmp 1), type := 34, pos := _, after := #[{ on := 3, ground := Go.Ground.guard }], guard := some (3, true) }) (v := undef) rfl (by kernel_rfl) (by kernel_rfl) (by kernel_rfl) (fun _ _ _ h => h) (Or.inr ⟨by rfl, rfl⟩) (by assumption) ?tk6
        try simp only [Act.put, List.setIfInBounds_toArray, List.set_cons_zero, List.set_cons_succ]
        refine wpAnyH_take (i := 6) (oi := { dst := some 16, op := Go.Op.move (Go.Operand.tmp 5), type := 34, pos := _, after := #[{ on := 3, ground := Go.Ground.guard }], guard := some (3, true) }) (v := undef) rfl (by kernel_rfl) (by kernel_rfl) (by kernel_rfl) (fun _ _ _ h => h) (Or.inr ⟨by rfl, rfl⟩) (by assumption) ?tk7
        try simp only [Act.put, List.setIfInBounds_toArray, List.set_cons_zero, List.set_cons_succ]
        refine wpAnyH_take (i := 7) (oi := { dst := some 17, op := Go.Op.call { callee := Go.Callee.value (Go.Operand.func 96), args := #[Go.Operand.tmp 15, Go.Operand.tmp 16], argTypes := #[34, 34] }, type := 65, pos := _, after := #[{ on := 5, ground := Go.Ground.data }, { on := 6, ground := Go.Ground.data }, { on := 3, ground := Go.Ground.chain }, { on := 3, ground := Go.Ground.guard }], guard := some (3, true) }) (v := undef) rfl (by kernel_rfl) (by kernel_rfl) (by kernel_rfl) (fun _ _ _ h => h) (Or.inr ⟨by rfl, rfl⟩) (by assumption) ?tk8
        try simp only [Act.put, List.setIfInBounds_toArray, List.set_cons_zero, List.set_cons_succ]
        refine wpAnyH_take (i := 8) (oi := { dst := some 18, op := Go.Op.nilCheck (Go.Operand.tmp 14), type := 0, pos := _, after := #[{ on := 4, ground := Go.Ground.data }, { on := 3, ground := Go.Ground.guard }], guard := some (3, true) }) (v := undef) rfl (by kernel_rfl) (by kernel_rfl) (by kernel_rfl) (fun _ _ _ h => h) (Or.inr ⟨by rfl, rfl⟩) (by assumption) ?tk9
        try simp only [Act.put, List.setIfInBounds_toArray, List.set_cons_zero, List.set_cons_succ]
        refine wpAnyH_take (i := 9) (oi := { dst := some 19, op := Go.Op.fieldAddr 175 (Go.Operand.tmp 18) 0, type := 0, pos := _, after := #[{ on := 8, ground := Go.Ground.data }, { on := 3, ground := Go.Ground.guard }], guard := some (3, true) }) (v := undef) rfl (by kernel_rfl) (by kernel_rfl) (by kernel_rfl) (fun _ _ _ h => h) (Or.inr ⟨by rfl, rfl⟩) (by assumption) ?tk10
        try simp only [Act.put, List.setIfInBounds_toArray, List.set_cons_zero, List.set_cons_succ]
        refine wpAnyH_take (i := 10) (oi := { dst := some 20, op := Go.Op.indexAddr 172 (Go.Operand.tmp 19) (Go.Operand.tmp 17), type := 0, pos := _, after := #[{ on := 9, ground := Go.Ground.data }, { on := 7, ground := Go.Ground.data }, { on := 3, ground := Go.Ground.guard }], guard := some (3, true) }) (v := undef) rfl (by kernel_rfl) (by kernel_rfl) (by kernel_rfl) (fun _ _ _ h => h) (Or.inr ⟨by rfl, rfl⟩) (by assumption) ?tk11
        try simp only [Act.put, List.setIfInBounds_toArray, List.set_cons_zero, List.set_cons_succ]
        refine wpAnyH_take (i := 11) (oi := { dst := some 21, op := Go.Op.call { callee := Go.Callee.value (Go.Operand.func 205), args := #[Go.Operand.tmp 20], argTypes := #[171] }, type := 4, pos := _, after := #[{ on := 10, ground := Go.Ground.data }, { on := 7, ground := Go.Ground.chain }, { on := 3, ground := Go.Ground.guard }], guard := some (3, true) }) (v := undef) rfl (by kernel_rfl) (by kernel_rfl) (by kernel_rfl) (fun _ _ _ h => h) (Or.inr ⟨by rfl, rfl⟩) (by assumption) ?tk12
        try simp only [Act.put, List.setIfInBounds_toArray, List.set_cons_zero, List.set_cons_succ]
        refine wpAnyH_take (i := 12) (oi := { dst := some 22, op := Go.Op.pick (Go.Operand.tmp 13) (Go.Operand.tmp 21) (Go.Operand.const (Go.Value.bool false)), type := 4, pos := _, after := #[{ on := 3, ground := Go.Ground.data }, { on := 11, ground := Go.Ground.data }], guard := none }) (v := ?vv13) rfl (by kernel_rfl) (by kernel_rfl) (by kernel_rfl) (fun _ _ _ h => h) (Or.inl ⟨by rfl, ?hy13⟩) (by assumption) ?tk13
        case hy13 => (intro w hSw; (try dsimp only at hSw); go_simp; (try with_reducible rfl))
        try simp only [Act.put, List.setIfInBounds_toArray, List.set_cons_zero, List.set_cons_succ]
        refine wpAnyH_done (by kernel_rfl) ?_ _
        go_wp2
        go_roundg (4 - (k + 1))
        case measure => omega
        case rel => exact ⟨k + 1, by omega, by go_num, fun j hj hja => HJ.out j (by omega) hja, hB.drew, HR.drew⟩
      · have hkb : ((k : Int) != (a : Int)) = true := by simp; omega
        have hi : a * 4 + k < 16 := by omega
        have hbx := @box_any wr.drew a k ha h4
        have hfl := mfull_any HR.drew hi
        have HI : Hid ((s.box (a * 4 + k)).n = (s.box (a * 4 + k)).n) := rfl
        by_cases hf : (s.box (a * 4 + k)).n = 32
        · rw [hf] at hfl
          have HF : Hid ((s.box (a * 4 + k)).n = 32) := hf
          clear hf
          generalize hI : a * 4 + k = i at *
          have j0 : (0 : Int) ≤ i := by omega
          have j1 : (i : Int) < 16 := by omega
          go_wp2_with fail
          go_region_held3 (fun _ => True) (trivial)
            (first | (go_at_call 96; refine hbx.mono ?_; rintro e w1 ⟨rfl, rfl⟩) | (go_at_call 205; refine hfl.mono ?_; rintro e w1 ⟨rfl, rfl⟩))
          go_wp2
          go_ret
          refine ⟨⟨_, rfl, ⟨fun h => absurd h Bool.false_ne_true, fun h => ?_⟩⟩, hB.drew⟩
          have := h k h4 hka
          rw [hI] at this
          exact absurd HF.out this
        · rw [decide_eq_false hf] at hfl
          have HF : Hid ((s.box (a * 4 + k)).n ≠ 32) := hf
          clear hf
          generalize hI : a * 4 + k = i at *
          have j0 : (0 : Int) ≤ i := by omega
          have j1 : (i : Int) < 16 := by omega
          go_wp2_with fail
          go_region_held3 (fun _ => True) (trivial)
            (first | (go_at_call 96; refine hbx.mono ?_; rintro e w1 ⟨rfl, rfl⟩) | (go_at_call 205; refine hfl.mono ?_; rintro e w1 ⟨rfl, rfl⟩))
          go_wp2
          go_roundg (4 - (k + 1))
          case measure => omega
          case rel =>
            refine ⟨k + 1, by omega, by go_num, fun j hj hja => ?_, hB.drew, HR.drew⟩
            by_cases hjk : j = k
            · rw [hjk, hI]; exact HF.out
            · exact HJ.out j (by omega) hja
    · have hk' : k = 4 := by omega
      subst hk'
      go_wp2
      go_ret
      exact ⟨⟨_, rfl, ⟨fun _ => HJ.out, fun _ => rfl⟩⟩, hB⟩
end Go.Proofs.Qxb6500877aGreatDoor
