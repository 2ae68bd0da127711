import Derived.Deep.CutBlock
import Derived.Test.Qxb6500877aGreatDoorQj0
set_option linter.unusedVariables false
set_option linter.unusedSimpArgs false
namespace Go.Proofs.Qxb6500877aGreatDoor
open Go.RowKit

/-- The two states that are compared, at work. -/
structure EA (w wr : World) (b1 b2 ba1 ba2 : Nat) (S T : Snap) : Prop where
  s : StAt wr b1 ba1 S
  t : StAt wr b2 ba2 T
  b : Below w.heap.size w wr
theorem EA.grow {w wr w' : World} {b1 b2 ba1 ba2 : Nat} {S T : Snap} (h : EA w wr b1 b2 ba1 ba2 S T) (hb : Below wr.heap.size wr w') : EA w w' b1 b2 ba1 ba2 S T :=
  ⟨StX.grow h.s hb.size hb.block, StX.grow h.t hb.size hb.block, h.b.trans (hb.mono h.b.size)⟩
theorem EA.drew {w wr : World} {b1 b2 ba1 ba2 : Nat} {S T : Snap} (h : EA w wr b1 b2 ba1 ba2 S T) : EA w wr.drew b1 b2 ba1 ba2 S T := ⟨StX.drew h.s, StX.drew h.t, below_dr h.b⟩
set_option maxRecDepth 20000 in
set_option maxHeartbeats 8000000 in
theorem stEqual_any {w : World} {b1 b2 ba1 ba2 : Nat} {S T : Snap} (H1 : StAt w b1 ba1 S) (H2 : StAt w b2 ba2 T) (Q : SnapEq S T) (Z : SnapSm S) :
    Calls Tryz.prog 24 #[.pointer (some ⟨b1, 0, none⟩), .pointer (some ⟨b2, 0, none⟩)] w fun e w' => e = .returned (.bool true) ∧ Below w.heap.size w w' := by
  have E : EA w w b1 b2 ba1 ba2 S T := ⟨H1, H2, Below.refl _ _⟩
  have HS1 : (World.drew w).cell? ⟨b1, 0, none⟩ = some (.int .u64 S.now) ∧ (World.drew w).cell? ⟨b2, 0, none⟩ = some (.int .u64 S.now) ∧ (loadVar 49 ⟨b1, 1, none⟩).run Tryz.prog (World.drew w) = .ok (.agg (tsk S.tk)) (World.drew w) ∧ (loadVar 49 ⟨b2, 1, none⟩).run Tryz.prog (World.drew w) = .ok (.agg (tsk S.tk)) (World.drew w) ∧ (loadVar 58 ⟨b1, 105, none⟩).run Tryz.prog (World.drew w) = .ok (.agg (accA S.acc)) (World.drew w) ∧ (loadVar 58 ⟨b2, 105, none⟩).run Tryz.prog (World.drew w) = .ok (.agg (accA S.acc)) (World.drew w) ∧ (World.drew w).cell? ⟨b1, 122, none⟩ = some (.int .u64 S.nx) ∧ (World.drew w).cell? ⟨b2, 122, none⟩ = some (.int .u64 S.nx) := by
    have D1 := E.drew.s
    have D2 := E.drew.t
    refine ⟨D1.now, by rw [Q.now]; exact D2.now, D1.lv49, ?_, D1.lv58, ?_, D1.ends.2, by rw [Q.nx]; exact D2.ends.2⟩
    · rw [tsk_congr Q.tk]; exact D2.lv49
    · rw [acc_congr Q.acc]; exact D2.lv58
  have g49 := guard49
  have g58 := guard58
  have g52 := guard52
  have q49 := tasks_neq S.tk
  have q58 := accs_neq S.acc
  generalize tsk S.tk = T0 at *
  generalize accA S.acc = A at *
  generalize S.now = nw at *
  generalize S.nx = nx at *
  have HQ := hideIt Q
  have HZ := hideIt Z
  clear H1 H2 Q Z
  go_enter Tryz.func24, Tryz.ntmps24
  go_wp2_with fail
  refine wp_region_held_drew (S := (fun w' => w'.cell? ⟨b1, 0, none⟩ = some (.int .u64 nw) ∧ w'.cell? ⟨b2, 0, none⟩ = some (.int .u64 nw) ∧ (loadVar 49 ⟨b1, 1, none⟩).run Tryz.prog w' = .ok (.agg T0) w' ∧ (loadVar 49 ⟨b2, 1, none⟩).run Tryz.prog w' = .ok (.agg T0) w' ∧ (loadVar 58 ⟨b1, 105, none⟩).run Tryz.prog w' = .ok (.agg A) w' ∧ (loadVar 58 ⟨b2, 105, none⟩).run Tryz.prog w' = .ok (.agg A) w' ∧ w'.cell? ⟨b1, 122, none⟩ = some (.int .u64 nx) ∧ w'.cell? ⟨b2, 122, none⟩ = some (.int .u64 nx))) (by kernel_rfl) HS1 (fun hHeld => ?_)
  refine wpAnyH_take (i := 0) (oi := { dst := some 9, op := Go.Op.move (Go.Operand.tmp 0), type := 64, pos := _, after := #[], guard := none }) (v := ?vv1) rfl (by kernel_rfl) (by kernel_rfl) (by kernel_rfl) (fun _ _ _ h => h) (Or.inl ⟨by rfl, ?hy1⟩) (by assumption) ?tk1
  case hy1 => (intro w hSw; (try dsimp only at hSw); go_simp; (try with_reducible rfl))
  try simp only [Act.put, List.setIfInBounds_toArray, List.set_cons_zero, List.set_cons_succ]
  refine wpAnyH_take (i := 1) (oi := { dst := some 10, op := Go.Op.nilCheck (Go.Operand.tmp 9), type := 0, pos := _, after := #[{ on := 0, ground := Go.Ground.data }], guard := none }) (v := ?vv2) rfl (by kernel_rfl) (by kernel_rfl) (by kernel_rfl) (fun _ _ _ h => h) (Or.inl ⟨by rfl, ?hy2⟩) (by assumption) ?tk2
  case hy2 => (intro w hSw; (try dsimp only at hSw); go_simp; (try with_reducible rfl))
  try simp only [Act.put, List.setIfInBounds_toArray, List.set_cons_zero, List.set_cons_succ]
  refine wpAnyH_take (i := 2) (oi := { dst := some 11, op := Go.Op.fieldAddr 61 (Go.Operand.tmp 10) 0, type := 0, pos := _, after := #[{ on := 1, ground := Go.Ground.data }], guard := none }) (v := ?vv3) rfl (by kernel_rfl) (by kernel_rfl) (by kernel_rfl) (fun _ _ _ h => h) (Or.inl ⟨by rfl, ?hy3⟩) (by assumption) ?tk3
  case hy3 => (intro w hSw; (try dsimp only at hSw); go_simp; (try with_reducible rfl))
  try simp only [Act.put, List.setIfInBounds_toArray, List.set_cons_zero, List.set_cons_succ]
  refine wpAnyH_take (i := 3) (oi := { dst := some 12, op := Go.Op.load 29 (Go.Operand.tmp 11), type := 29, pos := _, after := #[{ on := 2, ground := Go.Ground.data }], guard := none }) (v := ?vv4) rfl (by kernel_rfl) (by kernel_rfl) (by kernel_rfl) (fun _ _ _ h => h) (Or.inl ⟨by rfl, ?hy4⟩) (by assumption) ?tk4
  case hy4 => (intro w hSw; (try dsimp only at hSw); go_simp; (try with_reducible rfl))
  try simp only [Act.put, List.setIfInBounds_toArray, List.set_cons_zero, List.set_cons_succ]
  refine wpAnyH_take (i := 4) (oi := { dst := some 13, op := Go.Op.move (Go.Operand.tmp 1), type := 64, pos := _, after := #[], guard := none }) (v := ?vv5) rfl (by kernel_rfl) (by kernel_rfl) (by kernel_rfl) (fun _ _ _ h => h) (Or.inl ⟨by rfl, ?hy5⟩) (by assumption) ?tk5
  case hy5 => (intro w hSw; (try dsimp only at hSw); go_simp; (try with_reducible rfl))
  try simp only [Act.put, List.setIfInBounds_toArray, List.set_cons_zero, List.set_cons_succ]
  refine wpAnyH_take (i := 5) (oi := { dst := some 14, op := Go.Op.nilCheck (Go.Operand.tmp 13), type := 0, pos := _, after := #[{ on := 4, ground := Go.Ground.data }], guard := none }) (v := ?vv6) rfl (by kernel_rfl) (by kernel_rfl) (by kernel_rfl) (fun _ _ _ h => h) (Or.inl ⟨by rfl, ?hy6⟩) (by assumption) ?tk6
  case hy6 => (intro w hSw; (try dsimp only at hSw); go_simp; (try with_reducible rfl))
  try simp only [Act.put, List.setIfInBounds_toArray, List.set_cons_zero, List.set_cons_succ]
  refine wpAnyH_take (i := 6) (oi := { dst := some 15, op := Go.Op.fieldAddr 61 (Go.Operand.tmp 14) 0, type := 0, pos := _, after := #[{ on := 5, ground := Go.Ground.data }], guard := none }) (v := ?vv7) rfl (by kernel_rfl) (by kernel_rfl) (by kernel_rfl) (fun _ _ _ h => h) (Or.inl ⟨by rfl, ?hy7⟩) (by assumption) ?tk7
  case hy7 => (intro w hSw; (try dsimp only at hSw); go_simp; (try with_reducible rfl))
  try simp only [Act.put, List.setIfInBounds_toArray, List.set_cons_zero, List.set_cons_succ]
  refine wpAnyH_take (i := 7) (oi := { dst := some 16, op := Go.Op.load 29 (Go.Operand.tmp 15), type := 29, pos := _, after := #[{ on := 6, ground := Go.Ground.data }], guard := none }) (v := ?vv8) rfl (by kernel_rfl) (by kernel_rfl) (by kernel_rfl) (fun _ _ _ h => h) (Or.inl ⟨by rfl, ?hy8⟩) (by assumption) ?tk8
  case hy8 => (intro w hSw; (try dsimp only at hSw); go_simp; (try with_reducible rfl))
  try simp only [Act.put, List.setIfInBounds_toArray, List.set_cons_zero, List.set_cons_succ]
  refine wpAnyH_take (i := 8) (oi := { dst := some 17, op := Go.Op.binOp Go.BinOp.neq 29 (Go.Operand.tmp 12) (Go.Operand.tmp 16) 29, type := 4, pos := _, after := #[{ on := 3, ground := Go.Ground.data }, { on := 7, ground := Go.Ground.data }], guard := none }) (v := ?vv9) rfl (by kernel_rfl) (by kernel_rfl) (by kernel_rfl) (fun _ _ _ h => h) (Or.inl ⟨by rfl, ?hy9⟩) (by assumption) ?tk9
  case hy9 => (intro w hSw; (try dsimp only at hSw); go_simp; (try with_reducible rfl))
  try simp only [Act.put, List.setIfInBounds_toArray, List.set_cons_zero, List.set_cons_succ]
  refine wpAnyH_take (i := 9) (oi := { dst := some 18, op := Go.Op.move (Go.Operand.tmp 17), type := 4, pos := _, after := #[{ on := 8, ground := Go.Ground.data }], guard := none }) (v := ?vv10) rfl (by kernel_rfl) (by kernel_rfl) (by kernel_rfl) (fun _ _ _ h => h) (Or.inl ⟨by rfl, ?hy10⟩) (by assumption) ?tk10
  case hy10 => (intro w hSw; (try dsimp only at hSw); go_simp; (try with_reducible rfl))
  try simp only [Act.put, List.setIfInBounds_toArray, List.set_cons_zero, List.set_cons_succ]
  refine wpAnyH_take (i := 10) (oi := { dst := some 19, op := Go.Op.move (Go.Operand.tmp 0), type := 64, pos := _, after := #[{ on := 9, ground := Go.Ground.guard }], guard := some (9, false) }) (v := ?vv11) rfl (by kernel_rfl) (by kernel_rfl) (by kernel_rfl) (fun _ _ _ h => h) (Or.inl ⟨by rfl, ?hy11⟩) (by assumption) ?tk11
  case hy11 => (intro w hSw; (try dsimp only at hSw); go_simp; (try with_reducible rfl))
  try simp only [Act.put, List.setIfInBounds_toArray, List.set_cons_zero, List.set_cons_succ]
  refine wpAnyH_take (i := 11) (oi := { dst := some 20, op := Go.Op.nilCheck (Go.Operand.tmp 19), type := 0, pos := _, after := #[{ on := 10, ground := Go.Ground.data }, { on := 9, ground := Go.Ground.guard }], guard := some (9, false) }) (v := ?vv12) rfl (by kernel_rfl) (by kernel_rfl) (by kernel_rfl) (fun _ _ _ h => h) (Or.inl ⟨by rfl, ?hy12⟩) (by assumption) ?tk12
  case hy12 => (intro w hSw; (try dsimp only at hSw); go_simp; (try with_reducible rfl))
  try simp only [Act.put, List.setIfInBounds_toArray, List.set_cons_zero, List.set_cons_succ]
  refine wpAnyH_take (i := 12) (oi := { dst := some 21, op := Go.Op.fieldAddr 61 (Go.Operand.tmp 20) 1, type := 0, pos := _, after := #[{ on := 11, ground := Go.Ground.data }, { on := 9, ground := Go.Ground.guard }], guard := some (9, false) }) (v := ?vv13) rfl (by kernel_rfl) (by kernel_rfl) (by kernel_rfl) (fun _ _ _ h => h) (Or.inl ⟨by rfl, ?hy13⟩) (by assumption) ?tk13
  case hy13 => (intro w hSw; (try dsimp only at hSw); go_simp; (try with_reducible rfl))
  try simp only [Act.put, List.setIfInBounds_toArray, List.set_cons_zero, List.set_cons_succ]
  refine wpAnyH_take (i := 13) (oi := { dst := some 22, op := Go.Op.load 49 (Go.Operand.tmp 21), type := 49, pos := _, after := #[{ on := 12, ground := Go.Ground.data }, { on := 9, ground := Go.Ground.guard }], guard := some (9, false) }) (v := .agg T0) rfl (by kernel_rfl) (by kernel_rfl) (by kernel_rfl) (fun _ _ _ h => h) (Or.inl ⟨by rfl, ?hy14⟩) (by assumption) ?tk14
  case hy14 => (intro w hSw; exact exec_load 49 (.tmp 21) rfl ⟨b1, 1, none⟩ _ rfl hSw.2.2.1)
  try simp only [Act.put, List.setIfInBounds_toArray, List.set_cons_zero, List.set_cons_succ]
  refine wpAnyH_take (i := 14) (oi := { dst := some 23, op := Go.Op.move (Go.Operand.tmp 1), type := 64, pos := _, after := #[{ on := 9, ground := Go.Ground.guard }], guard := some (9, false) }) (v := ?vv15) rfl (by kernel_rfl) (by kernel_rfl) (by kernel_rfl) (fun _ _ _ h => h) (Or.inl ⟨by rfl, ?hy15⟩) (by assumption) ?tk15
  case hy15 => (intro w hSw; (try dsimp only at hSw); go_simp; (try with_reducible rfl))
  try simp only [Act.put, List.setIfInBounds_toArray, List.set_cons_zero, List.set_cons_succ]
  refine wpAnyH_take (i := 15) (oi := { dst := some 24, op := Go.Op.nilCheck (Go.Operand.tmp 23), type := 0, pos := _, after := #[{ on := 14, ground := Go.Ground.data }, { on := 9, ground := Go.Ground.guard }], guard := some (9, false) }) (v := ?vv16) rfl (by kernel_rfl) (by kernel_rfl) (by kernel_rfl) (fun _ _ _ h => h) (Or.inl ⟨by rfl, ?hy16⟩) (by assumption) ?tk16
  case hy16 => (intro w hSw; (try dsimp only at hSw); go_simp; (try with_reducible rfl))
  try simp only [Act.put, List.setIfInBounds_toArray, List.set_cons_zero, List.set_cons_succ]
  refine wpAnyH_take (i := 16) (oi := { dst := some 25, op := Go.Op.fieldAddr 61 (Go.Operand.tmp 24) 1, type := 0, pos := _, after := #[{ on := 15, ground := Go.Ground.data }, { on := 9, ground := Go.Ground.guard }], guard := some (9, false) }) (v := ?vv17) rfl (by kernel_rfl) (by kernel_rfl) (by kernel_rfl) (fun _ _ _ h => h) (Or.inl ⟨by rfl, ?hy17⟩) (by assumption) ?tk17
  case hy17 => (intro w hSw; (try dsimp only at hSw); go_simp; (try with_reducible rfl))
  try simp only [Act.put, List.setIfInBounds_toArray, List.set_cons_zero, List.set_cons_succ]
  refine wpAnyH_take (i := 17) (oi := { dst := some 26, op := Go.Op.load 49 (Go.Operand.tmp 25), type := 49, pos := _, after := #[{ on := 16, ground := Go.Ground.data }, { on := 9, ground := Go.Ground.guard }], guard := some (9, false) }) (v := .agg T0) rfl (by kernel_rfl) (by kernel_rfl) (by kernel_rfl) (fun _ _ _ h => h) (Or.inl ⟨by rfl, ?hy18⟩) (by assumption) ?tk18
  case hy18 => (intro w hSw; exact exec_load 49 (.tmp 25) rfl ⟨b2, 1, none⟩ _ rfl hSw.2.2.2.1)
  try simp only [Act.put, List.setIfInBounds_toArray, List.set_cons_zero, List.set_cons_succ]
  refine wpAnyH_take (i := 18) (oi := { dst := some 27, op := Go.Op.binOp Go.BinOp.neq 49 (Go.Operand.tmp 22) (Go.Operand.tmp 26) 49, type := 4, pos := _, after := #[{ on := 13, ground := Go.Ground.data }, { on := 17, ground := Go.Ground.data }, { on := 9, ground := Go.Ground.guard }], guard := some (9, false) }) (v := ?vv19) rfl (by kernel_rfl) (by kernel_rfl) (by kernel_rfl) (fun _ _ _ h => h) (Or.inl ⟨by rfl, ?hy19⟩) (by assumption) ?tk19
  case hy19 => (intro w hSw; (try dsimp only at hSw); go_simp; (try with_reducible rfl))
  try simp only [Act.put, List.setIfInBounds_toArray, List.set_cons_zero, List.set_cons_succ]
  refine wpAnyH_take (i := 19) (oi := { dst := some 28, op := Go.Op.pick (Go.Operand.tmp 18) (Go.Operand.const (Go.Value.bool true)) (Go.Operand.tmp 27), type := 4, pos := _, after := #[{ on := 9, ground := Go.Ground.data }, { on := 18, ground := Go.Ground.data }], guard := none }) (v := ?vv20) rfl (by kernel_rfl) (by kernel_rfl) (by kernel_rfl) (fun _ _ _ h => h) (Or.inl ⟨by rfl, ?hy20⟩) (by assumption) ?tk20
  case hy20 => (intro w hSw; (try dsimp only at hSw); go_simp; (try with_reducible rfl))
  try simp only [Act.put, List.setIfInBounds_toArray, List.set_cons_zero, List.set_cons_succ]
  refine wpAnyH_take (i := 20) (oi := { dst := some 29, op := Go.Op.move (Go.Operand.tmp 28), type := 4, pos := _, after := #[{ on := 19, ground := Go.Ground.data }, { on := 9, ground := Go.Ground.chain }], guard := none }) (v := ?vv21) rfl (by kernel_rfl) (by kernel_rfl) (by kernel_rfl) (fun _ _ _ h => h) (Or.inl ⟨by rfl, ?hy21⟩) (by assumption) ?tk21
  case hy21 => (intro w hSw; (try dsimp only at hSw); go_simp; (try with_reducible rfl))
  try simp only [Act.put, List.setIfInBounds_toArray, List.set_cons_zero, List.set_cons_succ]
  refine wpAnyH_take (i := 21) (oi := { dst := some 30, op := Go.Op.move (Go.Operand.tmp 0), type := 64, pos := _, after := #[{ on := 20, ground := Go.Ground.guard }], guard := some (20, false) }) (v := ?vv22) rfl (by kernel_rfl) (by kernel_rfl) (by kernel_rfl) (fun _ _ _ h => h) (Or.inl ⟨by rfl, ?hy22⟩) (by assumption) ?tk22
  case hy22 => (intro w hSw; (try dsimp only at hSw); go_simp; (try with_reducible rfl))
  try simp only [Act.put, List.setIfInBounds_toArray, List.set_cons_zero, List.set_cons_succ]
  refine wpAnyH_take (i := 22) (oi := { dst := some 31, op := Go.Op.nilCheck (Go.Operand.tmp 30), type := 0, pos := _, after := #[{ on := 21, ground := Go.Ground.data }, { on := 20, ground := Go.Ground.guard }], guard := some (20, false) }) (v := ?vv23) rfl (by kernel_rfl) (by kernel_rfl) (by kernel_rfl) (fun _ _ _ h => h) (Or.inl ⟨by rfl, ?hy23⟩) (by assumption) ?tk23
  case hy23 => (intro w hSw; (try dsimp only at hSw); go_simp; (try with_reducible rfl))
  try simp only [Act.put, List.setIfInBounds_toArray, List.set_cons_zero, List.set_cons_succ]
  refine wpAnyH_take (i := 23) (oi := { dst := some 32, op := Go.Op.fieldAddr 61 (Go.Operand.tmp 31) 4, type := 0, pos := _, after := #[{ on := 22, ground := Go.Ground.data }, { on := 20, ground := Go.Ground.guard }], guard := some (20, false) }) (v := ?vv24) rfl (by kernel_rfl) (by kernel_rfl) (by kernel_rfl) (fun _ _ _ h => h) (Or.inl ⟨by rfl, ?hy24⟩) (by assumption) ?tk24
  case hy24 => (intro w hSw; (try dsimp only at hSw); go_simp; (try with_reducible rfl))
  try simp only [Act.put, List.setIfInBounds_toArray, List.set_cons_zero, List.set_cons_succ]
  refine wpAnyH_take (i := 24) (oi := { dst := some 33, op := Go.Op.load 58 (Go.Operand.tmp 32), type := 58, pos := _, after := #[{ on := 23, ground := Go.Ground.data }, { on := 20, ground := Go.Ground.guard }], guard := some (20, false) }) (v := .agg A) rfl (by kernel_rfl) (by kernel_rfl) (by kernel_rfl) (fun _ _ _ h => h) (Or.inl ⟨by rfl, ?hy25⟩) (by assumption) ?tk25
  case hy25 => (intro w hSw; exact exec_load 58 (.tmp 32) rfl ⟨b1, 105, none⟩ _ rfl hSw.2.2.2.2.1)
  try simp only [Act.put, List.setIfInBounds_toArray, List.set_cons_zero, List.set_cons_succ]
  refine wpAnyH_take (i := 25) (oi := { dst := some 34, op := Go.Op.move (Go.Operand.tmp 1), type := 64, pos := _, after := #[{ on := 20, ground := Go.Ground.guard }], guard := some (20, false) }) (v := ?vv26) rfl (by kernel_rfl) (by kernel_rfl) (by kernel_rfl) (fun _ _ _ h => h) (Or.inl ⟨by rfl, ?hy26⟩) (by assumption) ?tk26
  case hy26 => (intro w hSw; (try dsimp only at hSw); go_simp; (try with_reducible rfl))
  try simp only [Act.put, List.setIfInBounds_toArray, List.set_cons_zero, List.set_cons_succ]
  refine wpAnyH_take (i := 26) (oi := { dst := some 35, op := Go.Op.nilCheck (Go.Operand.tmp 34), type := 0, pos := _, after := #[{ on := 25, ground := Go.Ground.data }, { on := 20, ground := Go.Ground.guard }], guard := some (20, false) }) (v := ?vv27) rfl (by kernel_rfl) (by kernel_rfl) (by kernel_rfl) (fun _ _ _ h => h) (Or.inl ⟨by rfl, ?hy27⟩) (by assumption) ?tk27
  case hy27 => (intro w hSw; (try dsimp only at hSw); go_simp; (try with_reducible rfl))
  try simp only [Act.put, List.setIfInBounds_toArray, List.set_cons_zero, List.set_cons_succ]
  refine wpAnyH_take (i := 27) (oi := { dst := some 36, op := Go.Op.fieldAddr 61 (Go.Operand.tmp 35) 4, type := 0, pos := _, after := #[{ on := 26, ground := Go.Ground.data }, { on := 20, ground := Go.Ground.guard }], guard := some (20, false) }) (v := ?vv28) rfl (by kernel_rfl) (by kernel_rfl) (by kernel_rfl) (fun _ _ _ h => h) (Or.inl ⟨by rfl, ?hy28⟩) (by assumption) ?tk28
  case hy28 => (intro w hSw; (try dsimp only at hSw); go_simp; (try with_reducible rfl))
  try simp only [Act.put, List.setIfInBounds_toArray, List.set_cons_zero, List.set_cons_succ]
  refine wpAnyH_take (i := 28) (oi := { dst := some 37, op := Go.Op.load 58 (Go.Operand.tmp 36), type := 58, pos := _, after := #[{ on := 27, ground := Go.Ground.data }, { on := 20, ground := Go.Ground.guard }], guard := some (20, false) }) (v := .agg A) rfl (by kernel_rfl) (by kernel_rfl) (by kernel_rfl) (fun _ _ _ h => h) (Or.inl ⟨by rfl, ?hy29⟩) (by assumption) ?tk29
  case hy29 => (intro w hSw; exact exec_load 58 (.tmp 36) rfl ⟨b2, 105, none⟩ _ rfl hSw.2.2.2.2.2.1)
  try simp only [Act.put, List.setIfInBounds_toArray, List.set_cons_zero, List.set_cons_succ]
  refine wpAnyH_take (i := 29) (oi := { dst := some 38, op := Go.Op.binOp Go.BinOp.neq 58 (Go.Operand.tmp 33) (Go.Operand.tmp 37) 58, type := 4, pos := _, after := #[{ on := 24, ground := Go.Ground.data }, { on := 28, ground := Go.Ground.data }, { on := 20, ground := Go.Ground.guard }], guard := some (20, false) }) (v := ?vv30) rfl (by kernel_rfl) (by kernel_rfl) (by kernel_rfl) (fun _ _ _ h => h) (Or.inl ⟨by rfl, ?hy30⟩) (by assumption) ?tk30
  case hy30 => (intro w hSw; (try dsimp only at hSw); go_simp; (try with_reducible rfl))
  try simp only [Act.put, List.setIfInBounds_toArray, List.set_cons_zero, List.set_cons_succ]
  refine wpAnyH_take (i := 30) (oi := { dst := some 39, op := Go.Op.pick (Go.Operand.tmp 29) (Go.Operand.const (Go.Value.bool true)) (Go.Operand.tmp 38), type := 4, pos := _, after := #[{ on := 20, ground := Go.Ground.data }, { on := 29, ground := Go.Ground.data }], guard := none }) (v := ?vv31) rfl (by kernel_rfl) (by kernel_rfl) (by kernel_rfl) (fun _ _ _ h => h) (Or.inl ⟨by rfl, ?hy31⟩) (by assumption) ?tk31
  case hy31 => (intro w hSw; (try dsimp only at hSw); go_simp; (try with_reducible rfl))
  try simp only [Act.put, List.setIfInBounds_toArray, List.set_cons_zero, List.set_cons_succ]
  refine wpAnyH_take (i := 31) (oi := { dst := some 40, op := Go.Op.move (Go.Operand.tmp 39), type := 4, pos := _, after := #[{ on := 30, ground := Go.Ground.data }, { on := 20, ground := Go.Ground.chain }], guard := none }) (v := ?vv32) rfl (by kernel_rfl) (by kernel_rfl) (by kernel_rfl) (fun _ _ _ h => h) (Or.inl ⟨by rfl, ?hy32⟩) (by assumption) ?tk32
  case hy32 => (intro w hSw; (try dsimp only at hSw); go_simp; (try with_reducible rfl))
  try simp only [Act.put, List.setIfInBounds_toArray, List.set_cons_zero, List.set_cons_succ]
  refine wpAnyH_take (i := 32) (oi := { dst := some 41, op := Go.Op.move (Go.Operand.tmp 0), type := 64, pos := _, after := #[{ on := 31, ground := Go.Ground.guard }], guard := some (31, false) }) (v := ?vv33) rfl (by kernel_rfl) (by kernel_rfl) (by kernel_rfl) (fun _ _ _ h => h) (Or.inl ⟨by rfl, ?hy33⟩) (by assumption) ?tk33
  case hy33 => (intro w hSw; (try dsimp only at hSw); go_simp; (try with_reducible rfl))
  try simp only [Act.put, List.setIfInBounds_toArray, List.set_cons_zero, List.set_cons_succ]
  refine wpAnyH_take (i := 33) (oi := { dst := some 42, op := Go.Op.nilCheck (Go.Operand.tmp 41), type := 0, pos := _, after := #[{ on := 32, ground := Go.Ground.data }, { on := 31, ground := Go.Ground.guard }], guard := some (31, false) }) (v := ?vv34) rfl (by kernel_rfl) (by kernel_rfl) (by kernel_rfl) (fun _ _ _ h => h) (Or.inl ⟨by rfl, ?hy34⟩) (by assumption) ?tk34
  case hy34 => (intro w hSw; (try dsimp only at hSw); go_simp; (try with_reducible rfl))
  try simp only [Act.put, List.setIfInBounds_toArray, List.set_cons_zero, List.set_cons_succ]
  refine wpAnyH_take (i := 34) (oi := { dst := some 43, op := Go.Op.fieldAddr 61 (Go.Operand.tmp 42) 6, type := 0, pos := _, after := #[{ on := 33, ground := Go.Ground.data }, { on := 31, ground := Go.Ground.guard }], guard := some (31, false) }) (v := ?vv35) rfl (by kernel_rfl) (by kernel_rfl) (by kernel_rfl) (fun _ _ _ h => h) (Or.inl ⟨by rfl, ?hy35⟩) (by assumption) ?tk35
  case hy35 => (intro w hSw; (try dsimp only at hSw); go_simp; (try with_reducible rfl))
  try simp only [Act.put, List.setIfInBounds_toArray, List.set_cons_zero, List.set_cons_succ]
  refine wpAnyH_take (i := 35) (oi := { dst := some 44, op := Go.Op.load 36 (Go.Operand.tmp 43), type := 36, pos := _, after := #[{ on := 34, ground := Go.Ground.data }, { on := 31, ground := Go.Ground.guard }], guard := some (31, false) }) (v := ?vv36) rfl (by kernel_rfl) (by kernel_rfl) (by kernel_rfl) (fun _ _ _ h => h) (Or.inl ⟨by rfl, ?hy36⟩) (by assumption) ?tk36
  case hy36 => (intro w hSw; (try dsimp only at hSw); go_simp; (try with_reducible rfl))
  try simp only [Act.put, List.setIfInBounds_toArray, List.set_cons_zero, List.set_cons_succ]
  refine wpAnyH_take (i := 36) (oi := { dst := some 45, op := Go.Op.move (Go.Operand.tmp 1), type := 64, pos := _, after := #[{ on := 31, ground := Go.Ground.guard }], guard := some (31, false) }) (v := ?vv37) rfl (by kernel_rfl) (by kernel_rfl) (by kernel_rfl) (fun _ _ _ h => h) (Or.inl ⟨by rfl, ?hy37⟩) (by assumption) ?tk37
  case hy37 => (intro w hSw; (try dsimp only at hSw); go_simp; (try with_reducible rfl))
  try simp only [Act.put, List.setIfInBounds_toArray, List.set_cons_zero, List.set_cons_succ]
  refine wpAnyH_take (i := 37) (oi := { dst := some 46, op := Go.Op.nilCheck (Go.Operand.tmp 45), type := 0, pos := _, after := #[{ on := 36, ground := Go.Ground.data }, { on := 31, ground := Go.Ground.guard }], guard := some (31, false) }) (v := ?vv38) rfl (by kernel_rfl) (by kernel_rfl) (by kernel_rfl) (fun _ _ _ h => h) (Or.inl ⟨by rfl, ?hy38⟩) (by assumption) ?tk38
  case hy38 => (intro w hSw; (try dsimp only at hSw); go_simp; (try with_reducible rfl))
  try simp only [Act.put, List.setIfInBounds_toArray, List.set_cons_zero, List.set_cons_succ]
  refine wpAnyH_take (i := 38) (oi := { dst := some 47, op := Go.Op.fieldAddr 61 (Go.Operand.tmp 46) 6, type := 0, pos := _, after := #[{ on := 37, ground := Go.Ground.data }, { on := 31, ground := Go.Ground.guard }], guard := some (31, false) }) (v := ?vv39) rfl (by kernel_rfl) (by kernel_rfl) (by kernel_rfl) (fun _ _ _ h => h) (Or.inl ⟨by rfl, ?hy39⟩) (by assumption) ?tk39
  case hy39 => (intro w hSw; (try dsimp only at hSw); go_simp; (try with_reducible rfl))
  try simp only [Act.put, List.setIfInBounds_toArray, List.set_cons_zero, List.set_cons_succ]
  refine wpAnyH_take (i := 39) (oi := { dst := some 48, op := Go.Op.load 36 (Go.Operand.tmp 47), type := 36, pos := _, after := #[{ on := 38, ground := Go.Ground.data }, { on := 31, ground := Go.Ground.guard }], guard := some (31, false) }) (v := ?vv40) rfl (by kernel_rfl) (by kernel_rfl) (by kernel_rfl) (fun _ _ _ h => h) (Or.inl ⟨by rfl, ?hy40⟩) (by assumption) ?tk40
  case hy40 => (intro w hSw; (try dsimp only at hSw); go_simp; (try with_reducible rfl))
  try simp only [Act.put, List.setIfInBounds_toArray, List.set_cons_zero, List.set_cons_succ]
  refine wpAnyH_take (i := 40) (oi := { dst := some 49, op := Go.Op.binOp Go.BinOp.neq 36 (Go.Operand.tmp 44) (Go.Operand.tmp 48) 36, type := 4, pos := _, after := #[{ on := 35, ground := Go.Ground.data }, { on := 39, ground := Go.Ground.data }, { on := 31, ground := Go.Ground.guard }], guard := some (31, false) }) (v := ?vv41) rfl (by kernel_rfl) (by kernel_rfl) (by kernel_rfl) (fun _ _ _ h => h) (Or.inl ⟨by rfl, ?hy41⟩) (by assumption) ?tk41
  case hy41 => (intro w hSw; (try dsimp only at hSw); go_simp; (try with_reducible rfl))
  try simp only [Act.put, List.setIfInBounds_toArray, List.set_cons_zero, List.set_cons_succ]
  refine wpAnyH_take (i := 41) (oi := { dst := some 50, op := Go.Op.pick (Go.Operand.tmp 40) (Go.Operand.const (Go.Value.bool true)) (Go.Operand.tmp 49), type := 4, pos := _, after := #[{ on := 31, ground := Go.Ground.data }, { on := 40, ground := Go.Ground.data }], guard := none }) (v := ?vv42) rfl (by kernel_rfl) (by kernel_rfl) (by kernel_rfl) (fun _ _ _ h => h) (Or.inl ⟨by rfl, ?hy42⟩) (by assumption) ?tk42
  case hy42 => (intro w hSw; (try dsimp only at hSw); go_simp; (try with_reducible rfl))
  try simp only [Act.put, List.setIfInBounds_toArray, List.set_cons_zero, List.set_cons_succ]
  refine wpAnyH_done (by kernel_rfl) ?_ _
  clear HS1
  have E := E.drew
  go_upto_block 0 with fail
  go_cut [] (fun wd => EA w wd b1 b2 ba1 ba2 S T)
  case first =>
    go_wp2_with fail
    go_loopg [51] 4 (fun g v wr => ∃ c : Nat, c + g = 4 ∧ v = .int .i64 (c : Int) ∧ EA w wr b1 b2 ba1 ba2 S T)
    case atStart => exact ⟨0, by omega, rfl, E⟩
    case round =>
      clear E
      obtain ⟨c, hc, rfl, E⟩ := hrel
      by_cases hc4 : c < 4
      · have i0 : (0 : Int) ≤ c := by omega
        have i1 : (c : Int) < 4 := by omega
        obtain ⟨x0, ⟨v1, x1, y1⟩, x2, x3⟩ := E.s.cores hc4
        obtain ⟨z0, ⟨v2, z1, y2⟩, z2, z3⟩ := E.t.cores hc4
        rw [← HQ.out.cur c hc4] at z0
        rw [← HQ.out.ld c hc4] at z2
        rw [← HQ.out.q c hc4] at y2
        have z3' := fun f (hf : f < 7) => (by rw [HQ.out.st _ (by omega : c * 7 + f < 28)]; exact z3 f hf : wr.cell? ⟨b2, 49 + c * 10 + 3 + f, none⟩ = some (.int .u64 (S.st (c * 7 + f))))
        clear z3
        obtain ⟨pb1, cb1, rfl⟩ := y1.shape
        obtain ⟨pb2, cb2, rfl⟩ := y2.shape
        have hsz := E.s.lt
        have hsz2 := E.t.lt
        have HEQ : Hid (∀ wr' : World, wr.heap.size ≤ wr'.heap.size → (∀ k, k < wr.heap.size → wr'.heap[k]? = wr.heap[k]?) → Calls Tryz.prog 94 #[.slice pb1 (S.q c).length cb1, .slice pb2 (S.q c).length cb2] wr' fun e w' => e = .returned (.bool true) ∧ Below wr'.heap.size wr' w') := hideIt (fun wr' h1 h2 => eq_ids (y1.keep h1 (fun k _ hk => h2 k hk)) (y2.keep h1 (fun k _ hk => h2 k hk)) (HZ.out.q c hc4))
        have HCELL0 : Hid (∀ wr' : World, (∀ k, k < wr.heap.size → wr'.heap[k]? = wr.heap[k]?) → wr'.cell? ⟨b1, 49 + c * 10, none⟩ = some (.int .i64 (S.cur c)) ∧ wr'.cell? ⟨b1, 49 + c * 10 + 1, none⟩ = some (.slice pb1 (S.q c).length cb1) ∧ wr'.cell? ⟨b1, 49 + c * 10 + 2, none⟩ = some (.int .i64 (S.ld c)) ∧ wr'.cell? ⟨b1, 49 + c * 10 + 3, none⟩ = some (.int .u64 (S.st (c * 7))) ∧ wr'.cell? ⟨b1, 49 + c * 10 + 3 + 1, none⟩ = some (.int .u64 (S.st (c * 7 + 1))) ∧ wr'.cell? ⟨b1, 49 + c * 10 + 3 + 2, none⟩ = some (.int .u64 (S.st (c * 7 + 2))) ∧ wr'.cell? ⟨b1, 49 + c * 10 + 3 + 3, none⟩ = some (.int .u64 (S.st (c * 7 + 3))) ∧ wr'.cell? ⟨b1, 49 + c * 10 + 3 + 4, none⟩ = some (.int .u64 (S.st (c * 7 + 4))) ∧ wr'.cell? ⟨b1, 49 + c * 10 + 3 + 5, none⟩ = some (.int .u64 (S.st (c * 7 + 5))) ∧ wr'.cell? ⟨b1, 49 + c * 10 + 3 + 6, none⟩ = some (.int .u64 (S.st (c * 7 + 6))) ∧ wr'.cell? ⟨b2, 49 + c * 10, none⟩ = some (.int .i64 (S.cur c)) ∧ wr'.cell? ⟨b2, 49 + c * 10 + 1, none⟩ = some (.slice pb2 (S.q c).length cb2) ∧ wr'.cell? ⟨b2, 49 + c * 10 + 2, none⟩ = some (.int .i64 (S.ld c)) ∧ wr'.cell? ⟨b2, 49 + c * 10 + 3, none⟩ = some (.int .u64 (S.st (c * 7))) ∧ wr'.cell? ⟨b2, 49 + c * 10 + 3 + 1, none⟩ = some (.int .u64 (S.st (c * 7 + 1))) ∧ wr'.cell? ⟨b2, 49 + c * 10 + 3 + 2, none⟩ = some (.int .u64 (S.st (c * 7 + 2))) ∧ wr'.cell? ⟨b2, 49 + c * 10 + 3 + 3, none⟩ = some (.int .u64 (S.st (c * 7 + 3))) ∧ wr'.cell? ⟨b2, 49 + c * 10 + 3 + 4, none⟩ = some (.int .u64 (S.st (c * 7 + 4))) ∧ wr'.cell? ⟨b2, 49 + c * 10 + 3 + 5, none⟩ = some (.int .u64 (S.st (c * 7 + 5))) ∧ wr'.cell? ⟨b2, 49 + c * 10 + 3 + 6, none⟩ = some (.int .u64 (S.st (c * 7 + 6)))) := hideIt (fun wr' h2 => by
          have e1 := h2 b1 hsz
          have e2 := h2 b2 hsz2
          have k1 := fun o v (h : wr.cell? ⟨b1, o, none⟩ = some v) => (World.cell?_of_block (a := ⟨b1, o, none⟩) e1).trans h
          have k2 := fun o v (h : wr.cell? ⟨b2, o, none⟩ = some v) => (World.cell?_of_block (a := ⟨b2, o, none⟩) e2).trans h
          exact ⟨k1 _ _ x0, k1 _ _ x1, k1 _ _ x2, k1 _ _ (x3 0 (by omega)), k1 _ _ (x3 1 (by omega)), k1 _ _ (x3 2 (by omega)), k1 _ _ (x3 3 (by omega)), k1 _ _ (x3 4 (by omega)), k1 _ _ (x3 5 (by omega)), k1 _ _ (x3 6 (by omega)), k2 _ _ z0, k2 _ _ z1, k2 _ _ z2, k2 _ _ (z3' 0 (by omega)), k2 _ _ (z3' 1 (by omega)), k2 _ _ (z3' 2 (by omega)), k2 _ _ (z3' 3 (by omega)), k2 _ _ (z3' 4 (by omega)), k2 _ _ (z3' 5 (by omega)), k2 _ _ (z3' 6 (by omega))⟩)
        clear x0 x1 x2 x3 z0 z1 z2 z3' y1 y2 hsz hsz2
        have q52 := stats_neq (S.st (c * 7)) (S.st (c * 7 + 1)) (S.st (c * 7 + 2)) (S.st (c * 7 + 3)) (S.st (c * 7 + 4)) (S.st (c * 7 + 5)) (S.st (c * 7 + 6))
        have HCELL := HCELL0
        clear HCELL0
        generalize S.cur c = cu at *
        generalize S.ld c = ld at *
        generalize (S.q c).length = n at *
        generalize S.st (c * 7 + 6) = s6 at *
        generalize S.st (c * 7 + 5) = s5 at *
        generalize S.st (c * 7 + 4) = s4 at *
        generalize S.st (c * 7 + 3) = s3 at *
        generalize S.st (c * 7 + 2) = s2 at *
        generalize S.st (c * 7 + 1) = s1 at *
        generalize S.st (c * 7) = s0 at *
        have ED := E.drew.drew
        go_wp2_with fail
        refine wp_region_held_drew (S := (fun _ => True)) (by kernel_rfl) trivial (fun hHeld => ?_)
        refine wpAnyH_take (i := 0) (oi := { dst := some 54, op := Go.Op.move (Go.Operand.tmp 0), type := 64, pos := _, after := #[], guard := none }) (v := ?vv43) rfl (by kernel_rfl) (by kernel_rfl) (by kernel_rfl) (fun _ _ _ h => h) (Or.inl ⟨by rfl, ?hy43⟩) (by assumption) ?tk43
        case hy43 => (intro w hSw; (try dsimp only at hSw); go_simp; (try with_reducible rfl))
        try simp only [Act.put, List.setIfInBounds_toArray, List.set_cons_zero, List.set_cons_succ]
        refine wpAnyH_take (i := 1) (oi := { dst := some 55, op := Go.Op.move (Go.Operand.tmp 5), type := 3, pos := _, after := #[], guard := none }) (v := ?vv44) rfl (by kernel_rfl) (by kernel_rfl) (by kernel_rfl) (fun _ _ _ h => h) (Or.inl ⟨by rfl, ?hy44⟩) (by assumption) ?tk44
        case hy44 => (intro w hSw; (try dsimp only at hSw); go_simp; (try with_reducible rfl))
        try simp only [Act.put, List.setIfInBounds_toArray, List.set_cons_zero, List.set_cons_succ]
        refine wpAnyH_take (i := 2) (oi := { dst := some 56, op := Go.Op.nilCheck (Go.Operand.tmp 54), type := 0, pos := _, after := #[{ on := 0, ground := Go.Ground.data }], guard := none }) (v := ?vv45) rfl (by kernel_rfl) (by kernel_rfl) (by kernel_rfl) (fun _ _ _ h => h) (Or.inl ⟨by rfl, ?hy45⟩) (by assumption) ?tk45
        case hy45 => (intro w hSw; (try dsimp only at hSw); go_simp; (try with_reducible rfl))
        try simp only [Act.put, List.setIfInBounds_toArray, List.set_cons_zero, List.set_cons_succ]
        refine wpAnyH_take (i := 3) (oi := { dst := some 57, op := Go.Op.fieldAddr 61 (Go.Operand.tmp 56) 2, type := 0, pos := _, after := #[{ on := 2, ground := Go.Ground.data }], guard := none }) (v := ?vv46) rfl (by kernel_rfl) (by kernel_rfl) (by kernel_rfl) (fun _ _ _ h => h) (Or.inl ⟨by rfl, ?hy46⟩) (by assumption) ?tk46
        case hy46 => (intro w hSw; (try dsimp only at hSw); go_simp; (try with_reducible rfl))
        try simp only [Act.put, List.setIfInBounds_toArray, List.set_cons_zero, List.set_cons_succ]
        refine wpAnyH_take (i := 4) (oi := { dst := some 58, op := Go.Op.indexAddr 55 (Go.Operand.tmp 57) (Go.Operand.tmp 55), type := 0, pos := _, after := #[{ on := 3, ground := Go.Ground.data }, { on := 1, ground := Go.Ground.data }], guard := none }) (v := ?vv47) rfl (by kernel_rfl) (by kernel_rfl) (by kernel_rfl) (fun _ _ _ h => h) (Or.inl ⟨by rfl, ?hy47⟩) (by assumption) ?tk47
        case hy47 => (intro w hSw; (try dsimp only at hSw); go_simp; (try with_reducible rfl))
        try simp only [Act.put, List.setIfInBounds_toArray, List.set_cons_zero, List.set_cons_succ]
        refine wpAnyH_take (i := 5) (oi := { dst := some 59, op := Go.Op.move (Go.Operand.tmp 1), type := 64, pos := _, after := #[{ on := 10, ground := Go.Ground.gcOnly Go.Departure.lateStores }], guard := none }) (v := ?vv48) rfl (by kernel_rfl) (by kernel_rfl) (by kernel_rfl) (fun _ _ _ h => h) (Or.inl ⟨by rfl, ?hy48⟩) (by assumption) ?tk48
        case hy48 => (intro w hSw; (try dsimp only at hSw); go_simp; (try with_reducible rfl))
        try simp only [Act.put, List.setIfInBounds_toArray, List.set_cons_zero, List.set_cons_succ]
        refine wpAnyH_take (i := 6) (oi := { dst := some 60, op := Go.Op.move (Go.Operand.tmp 5), type := 3, pos := _, after := #[{ on := 10, ground := Go.Ground.gcOnly Go.Departure.lateStores }], guard := none }) (v := ?vv49) rfl (by kernel_rfl) (by kernel_rfl) (by kernel_rfl) (fun _ _ _ h => h) (Or.inl ⟨by rfl, ?hy49⟩) (by assumption) ?tk49
        case hy49 => (intro w hSw; (try dsimp only at hSw); go_simp; (try with_reducible rfl))
        try simp only [Act.put, List.setIfInBounds_toArray, List.set_cons_zero, List.set_cons_succ]
        refine wpAnyH_take (i := 7) (oi := { dst := some 61, op := Go.Op.nilCheck (Go.Operand.tmp 59), type := 0, pos := _, after := #[{ on := 5, ground := Go.Ground.data }, { on := 10, ground := Go.Ground.gcOnly Go.Departure.lateStores }], guard := none }) (v := ?vv50) rfl (by kernel_rfl) (by kernel_rfl) (by kernel_rfl) (fun _ _ _ h => h) (Or.inl ⟨by rfl, ?hy50⟩) (by assumption) ?tk50
        case hy50 => (intro w hSw; (try dsimp only at hSw); go_simp; (try with_reducible rfl))
        try simp only [Act.put, List.setIfInBounds_toArray, List.set_cons_zero, List.set_cons_succ]
        refine wpAnyH_take (i := 8) (oi := { dst := some 62, op := Go.Op.fieldAddr 61 (Go.Operand.tmp 61) 2, type := 0, pos := _, after := #[{ on := 7, ground := Go.Ground.data }, { on := 10, ground := Go.Ground.gcOnly Go.Departure.lateStores }], guard := none }) (v := ?vv51) rfl (by kernel_rfl) (by kernel_rfl) (by kernel_rfl) (fun _ _ _ h => h) (Or.inl ⟨by rfl, ?hy51⟩) (by assumption) ?tk51
        case hy51 => (intro w hSw; (try dsimp only at hSw); go_simp; (try with_reducible rfl))
        try simp only [Act.put, List.setIfInBounds_toArray, List.set_cons_zero, List.set_cons_succ]
        refine wpAnyH_take (i := 9) (oi := { dst := some 63, op := Go.Op.indexAddr 55 (Go.Operand.tmp 62) (Go.Operand.tmp 60), type := 0, pos := _, after := #[{ on := 8, ground := Go.Ground.data }, { on := 6, ground := Go.Ground.data }, { on := 10, ground := Go.Ground.gcOnly Go.Departure.lateStores }], guard := none }) (v := ?vv52) rfl (by kernel_rfl) (by kernel_rfl) (by kernel_rfl) (fun _ _ _ h => h) (Or.inl ⟨by rfl, ?hy52⟩) (by assumption) ?tk52
        case hy52 => (intro w hSw; (try dsimp only at hSw); go_simp; (try with_reducible rfl))
        try simp only [Act.put, List.setIfInBounds_toArray, List.set_cons_zero, List.set_cons_succ]
        refine wpAnyH_take (i := 10) (oi := { dst := some 6, op := Go.Op.assign (Go.Operand.tmp 58), type := 199, pos := _, after := #[{ on := 4, ground := Go.Ground.data }, { on := 0, ground := Go.Ground.phase }, { on := 1, ground := Go.Ground.phase }, { on := 2, ground := Go.Ground.phase }, { on := 3, ground := Go.Ground.phase }, { on := 4, ground := Go.Ground.phase }, { on := 5, ground := Go.Ground.textOnly Go.Departure.lateStores }, { on := 6, ground := Go.Ground.textOnly Go.Departure.lateStores }, { on := 7, ground := Go.Ground.textOnly Go.Departure.lateStores }, { on := 8, ground := Go.Ground.textOnly Go.Departure.lateStores }, { on := 9, ground := Go.Ground.textOnly Go.Departure.lateStores }], guard := none }) (v := ?vv53) rfl (by kernel_rfl) (by kernel_rfl) (by kernel_rfl) (fun _ _ _ h => h) (Or.inl ⟨by rfl, ?hy53⟩) (by assumption) ?tk53
        case hy53 => (intro w hSw; (try dsimp only at hSw); go_simp; (try with_reducible rfl))
        try simp only [Act.put, List.setIfInBounds_toArray, List.set_cons_zero, List.set_cons_succ]
        refine wpAnyH_take (i := 11) (oi := { dst := some 7, op := Go.Op.assign (Go.Operand.tmp 63), type := 199, pos := _, after := #[{ on := 9, ground := Go.Ground.data }, { on := 10, ground := Go.Ground.chain }, { on := 0, ground := Go.Ground.phase }, { on := 1, ground := Go.Ground.phase }, { on := 2, ground := Go.Ground.phase }, { on := 3, ground := Go.Ground.phase }, { on := 4, ground := Go.Ground.phase }, { on := 5, ground := Go.Ground.phase }, { on := 6, ground := Go.Ground.phase }, { on := 7, ground := Go.Ground.phase }, { on := 8, ground := Go.Ground.phase }, { on := 9, ground := Go.Ground.phase }, { on := 10, ground := Go.Ground.phase }], guard := none }) (v := ?vv54) rfl (by kernel_rfl) (by kernel_rfl) (by kernel_rfl) (fun _ _ _ h => h) (Or.inl ⟨by rfl, ?hy54⟩) (by assumption) ?tk54
        case hy54 => (intro w hSw; (try dsimp only at hSw); go_simp; (try with_reducible rfl))
        try simp only [Act.put, List.setIfInBounds_toArray, List.set_cons_zero, List.set_cons_succ]
        refine wpAnyH_done (by kernel_rfl) ?_ _
        go_wp2_with fail
        refine wp_region_held_drew (S := (fun w' => w'.cell? ⟨b1, 49 + c * 10, none⟩ = some (.int .i64 cu) ∧ w'.cell? ⟨b1, 49 + c * 10 + 1, none⟩ = some (.slice pb1 n cb1) ∧ w'.cell? ⟨b1, 49 + c * 10 + 2, none⟩ = some (.int .i64 ld) ∧ w'.cell? ⟨b1, 49 + c * 10 + 3, none⟩ = some (.int .u64 s0) ∧ w'.cell? ⟨b1, 49 + c * 10 + 3 + 1, none⟩ = some (.int .u64 s1) ∧ w'.cell? ⟨b1, 49 + c * 10 + 3 + 2, none⟩ = some (.int .u64 s2) ∧ w'.cell? ⟨b1, 49 + c * 10 + 3 + 3, none⟩ = some (.int .u64 s3) ∧ w'.cell? ⟨b1, 49 + c * 10 + 3 + 4, none⟩ = some (.int .u64 s4) ∧ w'.cell? ⟨b1, 49 + c * 10 + 3 + 5, none⟩ = some (.int .u64 s5) ∧ w'.cell? ⟨b1, 49 + c * 10 + 3 + 6, none⟩ = some (.int .u64 s6) ∧ w'.cell? ⟨b2, 49 + c * 10, none⟩ = some (.int .i64 cu) ∧ w'.cell? ⟨b2, 49 + c * 10 + 1, none⟩ = some (.slice pb2 n cb2) ∧ w'.cell? ⟨b2, 49 + c * 10 + 2, none⟩ = some (.int .i64 ld) ∧ w'.cell? ⟨b2, 49 + c * 10 + 3, none⟩ = some (.int .u64 s0) ∧ w'.cell? ⟨b2, 49 + c * 10 + 3 + 1, none⟩ = some (.int .u64 s1) ∧ w'.cell? ⟨b2, 49 + c * 10 + 3 + 2, none⟩ = some (.int .u64 s2) ∧ w'.cell? ⟨b2, 49 + c * 10 + 3 + 3, none⟩ = some (.int .u64 s3) ∧ w'.cell? ⟨b2, 49 + c * 10 + 3 + 4, none⟩ = some (.int .u64 s4) ∧ w'.cell? ⟨b2, 49 + c * 10 + 3 + 5, none⟩ = some (.int .u64 s5) ∧ w'.cell? ⟨b2, 49 + c * 10 + 3 + 6, none⟩ = some (.int .u64 s6))) (by kernel_rfl) (HCELL.out _ (fun _ _ => rfl)) (fun hHeld => ?_)
        refine wpAnyH_take (i := 0) (oi := { dst := some 64, op := Go.Op.move (Go.Operand.tmp 6), type := 199, pos := _, after := #[], guard := none }) (v := ?vv55) rfl (by kernel_rfl) (by kernel_rfl) (by kernel_rfl) (fun _ _ _ h => h) (Or.inl ⟨by rfl, ?hy55⟩) (by assumption) ?tk55
        case hy55 => (intro w hSw; (try dsimp only at hSw); go_simp; (try with_reducible rfl))
        try simp only [Act.put, List.setIfInBounds_toArray, List.set_cons_zero, List.set_cons_succ]
        refine wpAnyH_take (i := 1) (oi := { dst := some 65, op := Go.Op.nilCheck (Go.Operand.tmp 64), type := 0, pos := _, after := #[{ on := 0, ground := Go.Ground.data }], guard := none }) (v := ?vv56) rfl (by kernel_rfl) (by kernel_rfl) (by kernel_rfl) (fun _ _ _ h => h) (Or.inl ⟨by rfl, ?hy56⟩) (by assumption) ?tk56
        case hy56 => (intro w hSw; (try dsimp only at hSw); go_simp; (try with_reducible rfl))
        try simp only [Act.put, List.setIfInBounds_toArray, List.set_cons_zero, List.set_cons_succ]
        refine wpAnyH_take (i := 2) (oi := { dst := some 66, op := Go.Op.fieldAddr 54 (Go.Operand.tmp 65) 0, type := 0, pos := _, after := #[{ on := 1, ground := Go.Ground.data }], guard := none }) (v := ?vv57) rfl (by kernel_rfl) (by kernel_rfl) (by kernel_rfl) (fun _ _ _ h => h) (Or.inl ⟨by rfl, ?hy57⟩) (by assumption) ?tk57
        case hy57 => (intro w hSw; (try dsimp only at hSw); go_simp; (try with_reducible rfl))
        try simp only [Act.put, List.setIfInBounds_toArray, List.set_cons_zero, List.set_cons_succ]
        refine wpAnyH_take (i := 3) (oi := { dst := some 67, op := Go.Op.load 35 (Go.Operand.tmp 66), type := 35, pos := _, after := #[{ on := 2, ground := Go.Ground.data }], guard := none }) (v := ?vv58) rfl (by kernel_rfl) (by kernel_rfl) (by kernel_rfl) (fun _ _ _ h => h) (Or.inl ⟨by rfl, ?hy58⟩) (by assumption) ?tk58
        case hy58 => (intro w hSw; (try dsimp only at hSw); go_simp; (try with_reducible rfl))
        try simp only [Act.put, List.setIfInBounds_toArray, List.set_cons_zero, List.set_cons_succ]
        refine wpAnyH_take (i := 4) (oi := { dst := some 68, op := Go.Op.move (Go.Operand.tmp 7), type := 199, pos := _, after := #[], guard := none }) (v := ?vv59) rfl (by kernel_rfl) (by kernel_rfl) (by kernel_rfl) (fun _ _ _ h => h) (Or.inl ⟨by rfl, ?hy59⟩) (by assumption) ?tk59
        case hy59 => (intro w hSw; (try dsimp only at hSw); go_simp; (try with_reducible rfl))
        try simp only [Act.put, List.setIfInBounds_toArray, List.set_cons_zero, List.set_cons_succ]
        refine wpAnyH_take (i := 5) (oi := { dst := some 69, op := Go.Op.nilCheck (Go.Operand.tmp 68), type := 0, pos := _, after := #[{ on := 4, ground := Go.Ground.data }], guard := none }) (v := ?vv60) rfl (by kernel_rfl) (by kernel_rfl) (by kernel_rfl) (fun _ _ _ h => h) (Or.inl ⟨by rfl, ?hy60⟩) (by assumption) ?tk60
        case hy60 => (intro w hSw; (try dsimp only at hSw); go_simp; (try with_reducible rfl))
        try simp only [Act.put, List.setIfInBounds_toArray, List.set_cons_zero, List.set_cons_succ]
        refine wpAnyH_take (i := 6) (oi := { dst := some 70, op := Go.Op.fieldAddr 54 (Go.Operand.tmp 69) 0, type := 0, pos := _, after := #[{ on := 5, ground := Go.Ground.data }], guard := none }) (v := ?vv61) rfl (by kernel_rfl) (by kernel_rfl) (by kernel_rfl) (fun _ _ _ h => h) (Or.inl ⟨by rfl, ?hy61⟩) (by assumption) ?tk61
        case hy61 => (intro w hSw; (try dsimp only at hSw); go_simp; (try with_reducible rfl))
        try simp only [Act.put, List.setIfInBounds_toArray, List.set_cons_zero, List.set_cons_succ]
        refine wpAnyH_take (i := 7) (oi := { dst := some 71, op := Go.Op.load 35 (Go.Operand.tmp 70), type := 35, pos := _, after := #[{ on := 6, ground := Go.Ground.data }], guard := none }) (v := ?vv62) rfl (by kernel_rfl) (by kernel_rfl) (by kernel_rfl) (fun _ _ _ h => h) (Or.inl ⟨by rfl, ?hy62⟩) (by assumption) ?tk62
        case hy62 => (intro w hSw; (try dsimp only at hSw); go_simp; (try with_reducible rfl))
        try simp only [Act.put, List.setIfInBounds_toArray, List.set_cons_zero, List.set_cons_succ]
        refine wpAnyH_take (i := 8) (oi := { dst := some 72, op := Go.Op.binOp Go.BinOp.neq 35 (Go.Operand.tmp 67) (Go.Operand.tmp 71) 35, type := 4, pos := _, after := #[{ on := 3, ground := Go.Ground.data }, { on := 7, ground := Go.Ground.data }], guard := none }) (v := ?vv63) rfl (by kernel_rfl) (by kernel_rfl) (by kernel_rfl) (fun _ _ _ h => h) (Or.inl ⟨by rfl, ?hy63⟩) (by assumption) ?tk63
        case hy63 => (intro w hSw; (try dsimp only at hSw); go_simp; (try with_reducible rfl))
        try simp only [Act.put, List.setIfInBounds_toArray, List.set_cons_zero, List.set_cons_succ]
        refine wpAnyH_take (i := 9) (oi := { dst := some 73, op := Go.Op.move (Go.Operand.tmp 72), type := 4, pos := _, after := #[{ on := 8, ground := Go.Ground.data }], guard := none }) (v := ?vv64) rfl (by kernel_rfl) (by kernel_rfl) (by kernel_rfl) (fun _ _ _ h => h) (Or.inl ⟨by rfl, ?hy64⟩) (by assumption) ?tk64
        case hy64 => (intro w hSw; (try dsimp only at hSw); go_simp; (try with_reducible rfl))
        try simp only [Act.put, List.setIfInBounds_toArray, List.set_cons_zero, List.set_cons_succ]
        refine wpAnyH_take (i := 10) (oi := { dst := some 74, op := Go.Op.move (Go.Operand.tmp 6), type := 199, pos := _, after := #[{ on := 9, ground := Go.Ground.guard }], guard := some (9, false) }) (v := ?vv65) rfl (by kernel_rfl) (by kernel_rfl) (by kernel_rfl) (fun _ _ _ h => h) (Or.inl ⟨by rfl, ?hy65⟩) (by assumption) ?tk65
        case hy65 => (intro w hSw; (try dsimp only at hSw); go_simp; (try with_reducible rfl))
        try simp only [Act.put, List.setIfInBounds_toArray, List.set_cons_zero, List.set_cons_succ]
        refine wpAnyH_take (i := 11) (oi := { dst := some 75, op := Go.Op.nilCheck (Go.Operand.tmp 74), type := 0, pos := _, after := #[{ on := 10, ground := Go.Ground.data }, { on := 9, ground := Go.Ground.guard }], guard := some (9, false) }) (v := ?vv66) rfl (by kernel_rfl) (by kernel_rfl) (by kernel_rfl) (fun _ _ _ h => h) (Or.inl ⟨by rfl, ?hy66⟩) (by assumption) ?tk66
        case hy66 => (intro w hSw; (try dsimp only at hSw); go_simp; (try with_reducible rfl))
        try simp only [Act.put, List.setIfInBounds_toArray, List.set_cons_zero, List.set_cons_succ]
        refine wpAnyH_take (i := 12) (oi := { dst := some 76, op := Go.Op.fieldAddr 54 (Go.Operand.tmp 75) 2, type := 0, pos := _, after := #[{ on := 11, ground := Go.Ground.data }, { on := 9, ground := Go.Ground.guard }], guard := some (9, false) }) (v := ?vv67) rfl (by kernel_rfl) (by kernel_rfl) (by kernel_rfl) (fun _ _ _ h => h) (Or.inl ⟨by rfl, ?hy67⟩) (by assumption) ?tk67
        case hy67 => (intro w hSw; (try dsimp only at hSw); go_simp; (try with_reducible rfl))
        try simp only [Act.put, List.setIfInBounds_toArray, List.set_cons_zero, List.set_cons_succ]
        refine wpAnyH_take (i := 13) (oi := { dst := some 77, op := Go.Op.load 3 (Go.Operand.tmp 76), type := 3, pos := _, after := #[{ on := 12, ground := Go.Ground.data }, { on := 9, ground := Go.Ground.guard }], guard := some (9, false) }) (v := ?vv68) rfl (by kernel_rfl) (by kernel_rfl) (by kernel_rfl) (fun _ _ _ h => h) (Or.inl ⟨by rfl, ?hy68⟩) (by assumption) ?tk68
        case hy68 => (intro w hSw; (try dsimp only at hSw); go_simp; (try with_reducible rfl))
        try simp only [Act.put, List.setIfInBounds_toArray, List.set_cons_zero, List.set_cons_succ]
        refine wpAnyH_take (i := 14) (oi := { dst := some 78, op := Go.Op.move (Go.Operand.tmp 7), type := 199, pos := _, after := #[{ on := 9, ground := Go.Ground.guard }], guard := some (9, false) }) (v := ?vv69) rfl (by kernel_rfl) (by kernel_rfl) (by kernel_rfl) (fun _ _ _ h => h) (Or.inl ⟨by rfl, ?hy69⟩) (by assumption) ?tk69
        case hy69 => (intro w hSw; (try dsimp only at hSw); go_simp; (try with_reducible rfl))
        try simp only [Act.put, List.setIfInBounds_toArray, List.set_cons_zero, List.set_cons_succ]
        refine wpAnyH_take (i := 15) (oi := { dst := some 79, op := Go.Op.nilCheck (Go.Operand.tmp 78), type := 0, pos := _, after := #[{ on := 14, ground := Go.Ground.data }, { on := 9, ground := Go.Ground.guard }], guard := some (9, false) }) (v := ?vv70) rfl (by kernel_rfl) (by kernel_rfl) (by kernel_rfl) (fun _ _ _ h => h) (Or.inl ⟨by rfl, ?hy70⟩) (by assumption) ?tk70
        case hy70 => (intro w hSw; (try dsimp only at hSw); go_simp; (try with_reducible rfl))
        try simp only [Act.put, List.setIfInBounds_toArray, List.set_cons_zero, List.set_cons_succ]
        refine wpAnyH_take (i := 16) (oi := { dst := some 80, op := Go.Op.fieldAddr 54 (Go.Operand.tmp 79) 2, type := 0, pos := _, after := #[{ on := 15, ground := Go.Ground.data }, { on := 9, ground := Go.Ground.guard }], guard := some (9, false) }) (v := ?vv71) rfl (by kernel_rfl) (by kernel_rfl) (by kernel_rfl) (fun _ _ _ h => h) (Or.inl ⟨by rfl, ?hy71⟩) (by assumption) ?tk71
        case hy71 => (intro w hSw; (try dsimp only at hSw); go_simp; (try with_reducible rfl))
        try simp only [Act.put, List.setIfInBounds_toArray, List.set_cons_zero, List.set_cons_succ]
        refine wpAnyH_take (i := 17) (oi := { dst := some 81, op := Go.Op.load 3 (Go.Operand.tmp 80), type := 3, pos := _, after := #[{ on := 16, ground := Go.Ground.data }, { on := 9, ground := Go.Ground.guard }], guard := some (9, false) }) (v := ?vv72) rfl (by kernel_rfl) (by kernel_rfl) (by kernel_rfl) (fun _ _ _ h => h) (Or.inl ⟨by rfl, ?hy72⟩) (by assumption) ?tk72
        case hy72 => (intro w hSw; (try dsimp only at hSw); go_simp; (try with_reducible rfl))
        try simp only [Act.put, List.setIfInBounds_toArray, List.set_cons_zero, List.set_cons_succ]
        refine wpAnyH_take (i := 18) (oi := { dst := some 82, op := Go.Op.binOp Go.BinOp.neq 3 (Go.Operand.tmp 77) (Go.Operand.tmp 81) 3, type := 4, pos := _, after := #[{ on := 13, ground := Go.Ground.data }, { on := 17, ground := Go.Ground.data }, { on := 9, ground := Go.Ground.guard }], guard := some (9, false) }) (v := ?vv73) rfl (by kernel_rfl) (by kernel_rfl) (by kernel_rfl) (fun _ _ _ h => h) (Or.inl ⟨by rfl, ?hy73⟩) (by assumption) ?tk73
        case hy73 => (intro w hSw; (try dsimp only at hSw); go_simp; (try with_reducible rfl))
        try simp only [Act.put, List.setIfInBounds_toArray, List.set_cons_zero, List.set_cons_succ]
        refine wpAnyH_take (i := 19) (oi := { dst := some 83, op := Go.Op.pick (Go.Operand.tmp 73) (Go.Operand.const (Go.Value.bool true)) (Go.Operand.tmp 82), type := 4, pos := _, after := #[{ on := 9, ground := Go.Ground.data }, { on := 18, ground := Go.Ground.data }], guard := none }) (v := ?vv74) rfl (by kernel_rfl) (by kernel_rfl) (by kernel_rfl) (fun _ _ _ h => h) (Or.inl ⟨by rfl, ?hy74⟩) (by assumption) ?tk74
        case hy74 => (intro w hSw; (try dsimp only at hSw); go_simp; (try with_reducible rfl))
        try simp only [Act.put, List.setIfInBounds_toArray, List.set_cons_zero, List.set_cons_succ]
        refine wpAnyH_take (i := 20) (oi := { dst := some 84, op := Go.Op.move (Go.Operand.tmp 83), type := 4, pos := _, after := #[{ on := 19, ground := Go.Ground.data }, { on := 9, ground := Go.Ground.chain }], guard := none }) (v := ?vv75) rfl (by kernel_rfl) (by kernel_rfl) (by kernel_rfl) (fun _ _ _ h => h) (Or.inl ⟨by rfl, ?hy75⟩) (by assumption) ?tk75
        case hy75 => (intro w hSw; (try dsimp only at hSw); go_simp; (try with_reducible rfl))
        try simp only [Act.put, List.setIfInBounds_toArray, List.set_cons_zero, List.set_cons_succ]
        refine wpAnyH_take (i := 21) (oi := { dst := some 85, op := Go.Op.move (Go.Operand.tmp 6), type := 199, pos := _, after := #[{ on := 20, ground := Go.Ground.guard }], guard := some (20, false) }) (v := ?vv76) rfl (by kernel_rfl) (by kernel_rfl) (by kernel_rfl) (fun _ _ _ h => h) (Or.inl ⟨by rfl, ?hy76⟩) (by assumption) ?tk76
        case hy76 => (intro w hSw; (try dsimp only at hSw); go_simp; (try with_reducible rfl))
        try simp only [Act.put, List.setIfInBounds_toArray, List.set_cons_zero, List.set_cons_succ]
        refine wpAnyH_take (i := 22) (oi := { dst := some 86, op := Go.Op.nilCheck (Go.Operand.tmp 85), type := 0, pos := _, after := #[{ on := 21, ground := Go.Ground.data }, { on := 20, ground := Go.Ground.guard }], guard := some (20, false) }) (v := ?vv77) rfl (by kernel_rfl) (by kernel_rfl) (by kernel_rfl) (fun _ _ _ h => h) (Or.inl ⟨by rfl, ?hy77⟩) (by assumption) ?tk77
        case hy77 => (intro w hSw; (try dsimp only at hSw); go_simp; (try with_reducible rfl))
        try simp only [Act.put, List.setIfInBounds_toArray, List.set_cons_zero, List.set_cons_succ]
        refine wpAnyH_take (i := 23) (oi := { dst := some 87, op := Go.Op.fieldAddr 54 (Go.Operand.tmp 86) 3, type := 0, pos := _, after := #[{ on := 22, ground := Go.Ground.data }, { on := 20, ground := Go.Ground.guard }], guard := some (20, false) }) (v := ?vv78) rfl (by kernel_rfl) (by kernel_rfl) (by kernel_rfl) (fun _ _ _ h => h) (Or.inl ⟨by rfl, ?hy78⟩) (by assumption) ?tk78
        case hy78 => (intro w hSw; (try dsimp only at hSw); go_simp; (try with_reducible rfl))
        try simp only [Act.put, List.setIfInBounds_toArray, List.set_cons_zero, List.set_cons_succ]
        refine wpAnyH_take (i := 24) (oi := { dst := some 88, op := Go.Op.load 52 (Go.Operand.tmp 87), type := 52, pos := _, after := #[{ on := 23, ground := Go.Ground.data }, { on := 20, ground := Go.Ground.guard }], guard := some (20, false) }) (v := ?vv79) rfl (by kernel_rfl) (by kernel_rfl) (by kernel_rfl) (fun _ _ _ h => h) (Or.inl ⟨by rfl, ?hy79⟩) (by assumption) ?tk79
        case hy79 => (intro w hSw; (try dsimp only at hSw); go_simp; (try with_reducible rfl))
        try simp only [Act.put, List.setIfInBounds_toArray, List.set_cons_zero, List.set_cons_succ]
        refine wpAnyH_take (i := 25) (oi := { dst := some 89, op := Go.Op.move (Go.Operand.tmp 7), type := 199, pos := _, after := #[{ on := 20, ground := Go.Ground.guard }], guard := some (20, false) }) (v := ?vv80) rfl (by kernel_rfl) (by kernel_rfl) (by kernel_rfl) (fun _ _ _ h => h) (Or.inl ⟨by rfl, ?hy80⟩) (by assumption) ?tk80
        case hy80 => (intro w hSw; (try dsimp only at hSw); go_simp; (try with_reducible rfl))
        try simp only [Act.put, List.setIfInBounds_toArray, List.set_cons_zero, List.set_cons_succ]
        refine wpAnyH_take (i := 26) (oi := { dst := some 90, op := Go.Op.nilCheck (Go.Operand.tmp 89), type := 0, pos := _, after := #[{ on := 25, ground := Go.Ground.data }, { on := 20, ground := Go.Ground.guard }], guard := some (20, false) }) (v := ?vv81) rfl (by kernel_rfl) (by kernel_rfl) (by kernel_rfl) (fun _ _ _ h => h) (Or.inl ⟨by rfl, ?hy81⟩) (by assumption) ?tk81
        case hy81 => (intro w hSw; (try dsimp only at hSw); go_simp; (try with_reducible rfl))
        try simp only [Act.put, List.setIfInBounds_toArray, List.set_cons_zero, List.set_cons_succ]
        refine wpAnyH_take (i := 27) (oi := { dst := some 91, op := Go.Op.fieldAddr 54 (Go.Operand.tmp 90) 3, type := 0, pos := _, after := #[{ on := 26, ground := Go.Ground.data }, { on := 20, ground := Go.Ground.guard }], guard := some (20, false) }) (v := ?vv82) rfl (by kernel_rfl) (by kernel_rfl) (by kernel_rfl) (fun _ _ _ h => h) (Or.inl ⟨by rfl, ?hy82⟩) (by assumption) ?tk82
        case hy82 => (intro w hSw; (try dsimp only at hSw); go_simp; (try with_reducible rfl))
        try simp only [Act.put, List.setIfInBounds_toArray, List.set_cons_zero, List.set_cons_succ]
        refine wpAnyH_take (i := 28) (oi := { dst := some 92, op := Go.Op.load 52 (Go.Operand.tmp 91), type := 52, pos := _, after := #[{ on := 27, ground := Go.Ground.data }, { on := 20, ground := Go.Ground.guard }], guard := some (20, false) }) (v := ?vv83) rfl (by kernel_rfl) (by kernel_rfl) (by kernel_rfl) (fun _ _ _ h => h) (Or.inl ⟨by rfl, ?hy83⟩) (by assumption) ?tk83
        case hy83 => (intro w hSw; (try dsimp only at hSw); go_simp; (try with_reducible rfl))
        try simp only [Act.put, List.setIfInBounds_toArray, List.set_cons_zero, List.set_cons_succ]
        refine wpAnyH_take (i := 29) (oi := { dst := some 93, op := Go.Op.binOp Go.BinOp.neq 52 (Go.Operand.tmp 88) (Go.Operand.tmp 92) 52, type := 4, pos := _, after := #[{ on := 24, ground := Go.Ground.data }, { on := 28, ground := Go.Ground.data }, { on := 20, ground := Go.Ground.guard }], guard := some (20, false) }) (v := ?vv84) rfl (by kernel_rfl) (by kernel_rfl) (by kernel_rfl) (fun _ _ _ h => h) (Or.inl ⟨by rfl, ?hy84⟩) (by assumption) ?tk84
        case hy84 => (intro w hSw; (try dsimp only at hSw); go_simp; (try with_reducible rfl))
        try simp only [Act.put, List.setIfInBounds_toArray, List.set_cons_zero, List.set_cons_succ]
        refine wpAnyH_take (i := 30) (oi := { dst := some 94, op := Go.Op.pick (Go.Operand.tmp 84) (Go.Operand.const (Go.Value.bool true)) (Go.Operand.tmp 93), type := 4, pos := _, after := #[{ on := 20, ground := Go.Ground.data }, { on := 29, ground := Go.Ground.data }], guard := none }) (v := ?vv85) rfl (by kernel_rfl) (by kernel_rfl) (by kernel_rfl) (fun _ _ _ h => h) (Or.inl ⟨by rfl, ?hy85⟩) (by assumption) ?tk85
        case hy85 => (intro w hSw; (try dsimp only at hSw); go_simp; (try with_reducible rfl))
        try simp only [Act.put, List.setIfInBounds_toArray, List.set_cons_zero, List.set_cons_succ]
        refine wpAnyH_take (i := 31) (oi := { dst := some 95, op := Go.Op.move (Go.Operand.tmp 94), type := 4, pos := _, after := #[{ on := 30, ground := Go.Ground.data }, { on := 20, ground := Go.Ground.chain }], guard := none }) (v := ?vv86) rfl (by kernel_rfl) (by kernel_rfl) (by kernel_rfl) (fun _ _ _ h => h) (Or.inl ⟨by rfl, ?hy86⟩) (by assumption) ?tk86
        case hy86 => (intro w hSw; (try dsimp only at hSw); go_simp; (try with_reducible rfl))
        try simp only [Act.put, List.setIfInBounds_toArray, List.set_cons_zero, List.set_cons_succ]
        refine wpAnyH_take (i := 32) (oi := { dst := some 96, op := Go.Op.move (Go.Operand.tmp 6), type := 199, pos := _, after := #[{ on := 31, ground := Go.Ground.guard }], guard := some (31, false) }) (v := ?vv87) rfl (by kernel_rfl) (by kernel_rfl) (by kernel_rfl) (fun _ _ _ h => h) (Or.inl ⟨by rfl, ?hy87⟩) (by assumption) ?tk87
        case hy87 => (intro w hSw; (try dsimp only at hSw); go_simp; (try with_reducible rfl))
        try simp only [Act.put, List.setIfInBounds_toArray, List.set_cons_zero, List.set_cons_succ]
        refine wpAnyH_take (i := 33) (oi := { dst := some 97, op := Go.Op.nilCheck (Go.Operand.tmp 96), type := 0, pos := _, after := #[{ on := 32, ground := Go.Ground.data }, { on := 31, ground := Go.Ground.guard }], guard := some (31, false) }) (v := ?vv88) rfl (by kernel_rfl) (by kernel_rfl) (by kernel_rfl) (fun _ _ _ h => h) (Or.inl ⟨by rfl, ?hy88⟩) (by assumption) ?tk88
        case hy88 => (intro w hSw; (try dsimp only at hSw); go_simp; (try with_reducible rfl))
        try simp only [Act.put, List.setIfInBounds_toArray, List.set_cons_zero, List.set_cons_succ]
        refine wpAnyH_take (i := 34) (oi := { dst := some 98, op := Go.Op.fieldAddr 54 (Go.Operand.tmp 97) 1, type := 0, pos := _, after := #[{ on := 33, ground := Go.Ground.data }, { on := 31, ground := Go.Ground.guard }], guard := some (31, false) }) (v := ?vv89) rfl (by kernel_rfl) (by kernel_rfl) (by kernel_rfl) (fun _ _ _ h => h) (Or.inl ⟨by rfl, ?hy89⟩) (by assumption) ?tk89
        case hy89 => (intro w hSw; (try dsimp only at hSw); go_simp; (try with_reducible rfl))
        try simp only [Act.put, List.setIfInBounds_toArray, List.set_cons_zero, List.set_cons_succ]
        refine wpAnyH_take (i := 35) (oi := { dst := some 99, op := Go.Op.load 50 (Go.Operand.tmp 98), type := 50, pos := _, after := #[{ on := 34, ground := Go.Ground.data }, { on := 31, ground := Go.Ground.guard }], guard := some (31, false) }) (v := ?vv90) rfl (by kernel_rfl) (by kernel_rfl) (by kernel_rfl) (fun _ _ _ h => h) (Or.inl ⟨by rfl, ?hy90⟩) (by assumption) ?tk90
        case hy90 => (intro w hSw; (try dsimp only at hSw); go_simp; (try with_reducible rfl))
        try simp only [Act.put, List.setIfInBounds_toArray, List.set_cons_zero, List.set_cons_succ]
        refine wpAnyH_take (i := 36) (oi := { dst := some 100, op := Go.Op.move (Go.Operand.tmp 7), type := 199, pos := _, after := #[{ on := 31, ground := Go.Ground.guard }], guard := some (31, false) }) (v := ?vv91) rfl (by kernel_rfl) (by kernel_rfl) (by kernel_rfl) (fun _ _ _ h => h) (Or.inl ⟨by rfl, ?hy91⟩) (by assumption) ?tk91
        case hy91 => (intro w hSw; (try dsimp only at hSw); go_simp; (try with_reducible rfl))
        try simp only [Act.put, List.setIfInBounds_toArray, List.set_cons_zero, List.set_cons_succ]
        refine wpAnyH_take (i := 37) (oi := { dst := some 101, op := Go.Op.nilCheck (Go.Operand.tmp 100), type := 0, pos := _, after := #[{ on := 36, ground := Go.Ground.data }, { on := 31, ground := Go.Ground.guard }], guard := some (31, false) }) (v := ?vv92) rfl (by kernel_rfl) (by kernel_rfl) (by kernel_rfl) (fun _ _ _ h => h) (Or.inl ⟨by rfl, ?hy92⟩) (by assumption) ?tk92
        case hy92 => (intro w hSw; (try dsimp only at hSw); go_simp; (try with_reducible rfl))
        try simp only [Act.put, List.setIfInBounds_toArray, List.set_cons_zero, List.set_cons_succ]
        refine wpAnyH_take (i := 38) (oi := { dst := some 102, op := Go.Op.fieldAddr 54 (Go.Operand.tmp 101) 1, type := 0, pos := _, after := #[{ on := 37, ground := Go.Ground.data }, { on := 31, ground := Go.Ground.guard }], guard := some (31, false) }) (v := ?vv93) rfl (by kernel_rfl) (by kernel_rfl) (by kernel_rfl) (fun _ _ _ h => h) (Or.inl ⟨by rfl, ?hy93⟩) (by assumption) ?tk93
        case hy93 => (intro w hSw; (try dsimp only at hSw); go_simp; (try with_reducible rfl))
        try simp only [Act.put, List.setIfInBounds_toArray, List.set_cons_zero, List.set_cons_succ]
        refine wpAnyH_take (i := 39) (oi := { dst := some 103, op := Go.Op.load 50 (Go.Operand.tmp 102), type := 50, pos := _, after := #[{ on := 38, ground := Go.Ground.data }, { on := 31, ground := Go.Ground.guard }], guard := some (31, false) }) (v := ?vv94) rfl (by kernel_rfl) (by kernel_rfl) (by kernel_rfl) (fun _ _ _ h => h) (Or.inl ⟨by rfl, ?hy94⟩) (by assumption) ?tk94
        case hy94 => (intro w hSw; (try dsimp only at hSw); go_simp; (try with_reducible rfl))
        try simp only [Act.put, List.setIfInBounds_toArray, List.set_cons_zero, List.set_cons_succ]
        refine wpAnyH_ready (rs := [40]) (by kernel_rfl) (by simp) ?_
        refine AllReadyH.cons (o := { dst := some 104, op := Go.Op.call { callee := Go.Callee.value (Go.Operand.func 94), args := #[Go.Operand.tmp 99, Go.Operand.tmp 103], argTypes := #[50, 50] }, type := 4, pos := _, after := #[{ on := 35, ground := Go.Ground.data }, { on := 39, ground := Go.Ground.data }, { on := 31, ground := Go.Ground.chain }, { on := 31, ground := Go.Ground.guard }], guard := some (31, false) }) rfl (fun K' hK' => ?_) AllReadyH.nil
        go_simp
        go_at_call 94
        refine (HEQ.out (World.drew (World.drew wr)) (Nat.le_refl _) (fun _ _ => rfl)).mono ?_
        rintro e w1 ⟨rfl, hb1⟩
        have E2 := ED.grow hb1
        have HB1 := hideIt hb1.block
        clear hb1
        clear hHeld
        refine hK'.out _ _ (HCELL.out _ HB1.out) (fun hHeld => ?_)
        clear hK' K'
        try simp only [Act.put, List.setIfInBounds_toArray, List.set_cons_zero, List.set_cons_succ]
        refine wpAnyH_take (i := 41) (oi := { dst := some 105, op := Go.Op.unOp Go.UnOp.not 4 (Go.Operand.tmp 104), type := 4, pos := _, after := #[{ on := 40, ground := Go.Ground.data }, { on := 31, ground := Go.Ground.guard }], guard := some (31, false) }) (v := ?vv95) rfl (by kernel_rfl) (by kernel_rfl) (by kernel_rfl) (fun _ _ _ h => h) (Or.inl ⟨by rfl, ?hy95⟩) (by assumption) ?tk95
        case hy95 => (intro w hSw; (try dsimp only at hSw); go_simp; (try with_reducible rfl))
        try simp only [Act.put, List.setIfInBounds_toArray, List.set_cons_zero, List.set_cons_succ]
        refine wpAnyH_take (i := 42) (oi := { dst := some 106, op := Go.Op.pick (Go.Operand.tmp 95) (Go.Operand.const (Go.Value.bool true)) (Go.Operand.tmp 105), type := 4, pos := _, after := #[{ on := 31, ground := Go.Ground.data }, { on := 41, ground := Go.Ground.data }], guard := none }) (v := ?vv96) rfl (by kernel_rfl) (by kernel_rfl) (by kernel_rfl) (fun _ _ _ h => h) (Or.inl ⟨by rfl, ?hy96⟩) (by assumption) ?tk96
        case hy96 => (intro w hSw; (try dsimp only at hSw); go_simp; (try with_reducible rfl))
        try simp only [Act.put, List.setIfInBounds_toArray, List.set_cons_zero, List.set_cons_succ]
        refine wpAnyH_done (by kernel_rfl) ?_ _
        go_wp2
        go_roundg (4 - (c + 1))
        case measure => omega
        case rel => exact ⟨c + 1, by omega, by go_num, E2⟩
      · have e : c = 4 := by omega
        subst e
        go_wp2
        go_meet
        case rel => exact E
  case rest =>
  clear E
  have E := hcut
  clear hcut g49 g58 g52 q49 q58
  go_upto_block 2 with fail
  go_cut [] (fun wd => EA w wd b1 b2 ba1 ba2 S T)
  case first =>
    go_wp2_with fail
    go_loopg [108] 16 (fun g v wr => ∃ i : Nat, i + g = 16 ∧ v = .int .i64 (i : Int) ∧ EA w wr b1 b2 ba1 ba2 S T)
    case atStart => exact ⟨0, by omega, rfl, E⟩
    case round =>
      clear E
      obtain ⟨i, hi, rfl, E⟩ := hrel
      by_cases hi16 : i < 16
      · have i0 : (0 : Int) ≤ i := by omega
        have i1 : (i : Int) < 16 := by omega
        obtain ⟨⟨v1, x1, y1⟩, _⟩ := E.s.boxes hi16
        obtain ⟨⟨v2, x2, y2⟩, _⟩ := E.t.boxes hi16
        rw [← HQ.out.box i hi16] at y2
        obtain ⟨p1, k1, rfl⟩ := y1.shape
        obtain ⟨p2, k2, rfl⟩ := y2.shape
        have hsz := E.s.lt
        have hsz2 := E.t.lt
        have HEQ : Hid (∀ wr' : World, wr.heap.size ≤ wr'.heap.size → (∀ k, k < wr.heap.size → wr'.heap[k]? = wr.heap[k]?) → Calls Tryz.prog 31 #[.slice p1 (S.box i).length k1, .slice p2 (S.box i).length k2] wr' fun e w' => e = .returned (.bool true) ∧ Below wr'.heap.size wr' w') := hideIt (fun wr' h1 h2 => eq_msgs (y1.keep h1 (fun k _ hk => h2 k hk)) (y2.keep h1 (fun k _ hk => h2 k hk)) (HZ.out.box i hi16))
        have HCELL : Hid (∀ wr' : World, (∀ k, k < wr.heap.size → wr'.heap[k]? = wr.heap[k]?) → wr'.cell? ⟨b1, 89 + i, none⟩ = some (.slice p1 (S.box i).length k1) ∧ wr'.cell? ⟨b2, 89 + i, none⟩ = some (.slice p2 (S.box i).length k2)) := hideIt (fun wr' h2 => ⟨(World.cell?_of_block (a := ⟨b1, 89 + i, none⟩) (h2 b1 hsz)).trans x1, (World.cell?_of_block (a := ⟨b2, 89 + i, none⟩) (h2 b2 hsz2)).trans x2⟩)
        clear x1 x2 y1 y2 hsz hsz2
        generalize (S.box i).length = n at *
        have ED := E.drew
        go_wp2_with fail
        refine wp_region_held_drew (S := (fun w' => w'.cell? ⟨b1, 89 + i, none⟩ = some (.slice p1 n k1) ∧ w'.cell? ⟨b2, 89 + i, none⟩ = some (.slice p2 n k2))) (by kernel_rfl) (HCELL.out _ (fun _ _ => rfl)) (fun hHeld => ?_)
        refine wpAnyH_take (i := 0) (oi := { dst := some 111, op := Go.Op.move (Go.Operand.tmp 0), type := 64, pos := _, after := #[], guard := none }) (v := ?vv97) rfl (by kernel_rfl) (by kernel_rfl) (by kernel_rfl) (fun _ _ _ h => h) (Or.inl ⟨by rfl, ?hy97⟩) (by assumption) ?tk97
        case hy97 => (intro w hSw; (try dsimp only at hSw); go_simp; (try with_reducible rfl))
        try simp only [Act.put, List.setIfInBounds_toArray, List.set_cons_zero, List.set_cons_succ]
        refine wpAnyH_take (i := 1) (oi := { dst := some 112, op := Go.Op.move (Go.Operand.tmp 8), type := 3, pos := _, after := #[], guard := none }) (v := ?vv98) rfl (by kernel_rfl) (by kernel_rfl) (by kernel_rfl) (fun _ _ _ h => h) (Or.inl ⟨by rfl, ?hy98⟩) (by assumption) ?tk98
        case hy98 => (intro w hSw; (try dsimp only at hSw); go_simp; (try with_reducible rfl))
        try simp only [Act.put, List.setIfInBounds_toArray, List.set_cons_zero, List.set_cons_succ]
        refine wpAnyH_take (i := 2) (oi := { dst := some 113, op := Go.Op.nilCheck (Go.Operand.tmp 111), type := 0, pos := _, after := #[{ on := 0, ground := Go.Ground.data }], guard := none }) (v := ?vv99) rfl (by kernel_rfl) (by kernel_rfl) (by kernel_rfl) (fun _ _ _ h => h) (Or.inl ⟨by rfl, ?hy99⟩) (by assumption) ?tk99
        case hy99 => (intro w hSw; (try dsimp only at hSw); go_simp; (try with_reducible rfl))
        try simp only [Act.put, List.setIfInBounds_toArray, List.set_cons_zero, List.set_cons_succ]
        refine wpAnyH_take (i := 3) (oi := { dst := some 114, op := Go.Op.fieldAddr 61 (Go.Operand.tmp 113) 3, type := 0, pos := _, after := #[{ on := 2, ground := Go.Ground.data }], guard := none }) (v := ?vv100) rfl (by kernel_rfl) (by kernel_rfl) (by kernel_rfl) (fun _ _ _ h => h) (Or.inl ⟨by rfl, ?hy100⟩) (by assumption) ?tk100
        case hy100 => (intro w hSw; (try dsimp only at hSw); go_simp; (try with_reducible rfl))
        try simp only [Act.put, List.setIfInBounds_toArray, List.set_cons_zero, List.set_cons_succ]
        refine wpAnyH_take (i := 4) (oi := { dst := some 115, op := Go.Op.indexAddr 57 (Go.Operand.tmp 114) (Go.Operand.tmp 112), type := 0, pos := _, after := #[{ on := 3, ground := Go.Ground.data }, { on := 1, ground := Go.Ground.data }], guard := none }) (v := ?vv101) rfl (by kernel_rfl) (by kernel_rfl) (by kernel_rfl) (fun _ _ _ h => h) (Or.inl ⟨by rfl, ?hy101⟩) (by assumption) ?tk101
        case hy101 => (intro w hSw; (try dsimp only at hSw); go_simp; (try with_reducible rfl))
        try simp only [Act.put, List.setIfInBounds_toArray, List.set_cons_zero, List.set_cons_succ]
        refine wpAnyH_take (i := 5) (oi := { dst := some 116, op := Go.Op.load 56 (Go.Operand.tmp 115), type := 56, pos := _, after := #[{ on := 4, ground := Go.Ground.data }], guard := none }) (v := ?vv102) rfl (by kernel_rfl) (by kernel_rfl) (by kernel_rfl) (fun _ _ _ h => h) (Or.inl ⟨by rfl, ?hy102⟩) (by assumption) ?tk102
        case hy102 => (intro w hSw; (try dsimp only at hSw); go_simp; (try with_reducible rfl))
        try simp only [Act.put, List.setIfInBounds_toArray, List.set_cons_zero, List.set_cons_succ]
        refine wpAnyH_take (i := 6) (oi := { dst := some 117, op := Go.Op.move (Go.Operand.tmp 1), type := 64, pos := _, after := #[], guard := none }) (v := ?vv103) rfl (by kernel_rfl) (by kernel_rfl) (by kernel_rfl) (fun _ _ _ h => h) (Or.inl ⟨by rfl, ?hy103⟩) (by assumption) ?tk103
        case hy103 => (intro w hSw; (try dsimp only at hSw); go_simp; (try with_reducible rfl))
        try simp only [Act.put, List.setIfInBounds_toArray, List.set_cons_zero, List.set_cons_succ]
        refine wpAnyH_take (i := 7) (oi := { dst := some 118, op := Go.Op.move (Go.Operand.tmp 8), type := 3, pos := _, after := #[], guard := none }) (v := ?vv104) rfl (by kernel_rfl) (by kernel_rfl) (by kernel_rfl) (fun _ _ _ h => h) (Or.inl ⟨by rfl, ?hy104⟩) (by assumption) ?tk104
        case hy104 => (intro w hSw; (try dsimp only at hSw); go_simp; (try with_reducible rfl))
        try simp only [Act.put, List.setIfInBounds_toArray, List.set_cons_zero, List.set_cons_succ]
        refine wpAnyH_take (i := 8) (oi := { dst := some 119, op := Go.Op.nilCheck (Go.Operand.tmp 117), type := 0, pos := _, after := #[{ on := 6, ground := Go.Ground.data }], guard := none }) (v := ?vv105) rfl (by kernel_rfl) (by kernel_rfl) (by kernel_rfl) (fun _ _ _ h => h) (Or.inl ⟨by rfl, ?hy105⟩) (by assumption) ?tk105
        case hy105 => (intro w hSw; (try dsimp only at hSw); go_simp; (try with_reducible rfl))
        try simp only [Act.put, List.setIfInBounds_toArray, List.set_cons_zero, List.set_cons_succ]
        refine wpAnyH_take (i := 9) (oi := { dst := some 120, op := Go.Op.fieldAddr 61 (Go.Operand.tmp 119) 3, type := 0, pos := _, after := #[{ on := 8, ground := Go.Ground.data }], guard := none }) (v := ?vv106) rfl (by kernel_rfl) (by kernel_rfl) (by kernel_rfl) (fun _ _ _ h => h) (Or.inl ⟨by rfl, ?hy106⟩) (by assumption) ?tk106
        case hy106 => (intro w hSw; (try dsimp only at hSw); go_simp; (try with_reducible rfl))
        try simp only [Act.put, List.setIfInBounds_toArray, List.set_cons_zero, List.set_cons_succ]
        refine wpAnyH_take (i := 10) (oi := { dst := some 121, op := Go.Op.indexAddr 57 (Go.Operand.tmp 120) (Go.Operand.tmp 118), type := 0, pos := _, after := #[{ on := 9, ground := Go.Ground.data }, { on := 7, ground := Go.Ground.data }], guard := none }) (v := ?vv107) rfl (by kernel_rfl) (by kernel_rfl) (by kernel_rfl) (fun _ _ _ h => h) (Or.inl ⟨by rfl, ?hy107⟩) (by assumption) ?tk107
        case hy107 => (intro w hSw; (try dsimp only at hSw); go_simp; (try with_reducible rfl))
        try simp only [Act.put, List.setIfInBounds_toArray, List.set_cons_zero, List.set_cons_succ]
        refine wpAnyH_take (i := 11) (oi := { dst := some 122, op := Go.Op.load 56 (Go.Operand.tmp 121), type := 56, pos := _, after := #[{ on := 10, ground := Go.Ground.data }], guard := none }) (v := ?vv108) rfl (by kernel_rfl) (by kernel_rfl) (by kernel_rfl) (fun _ _ _ h => h) (Or.inl ⟨by rfl, ?hy108⟩) (by assumption) ?tk108
        case hy108 => (intro w hSw; (try dsimp only at hSw); go_simp; (try with_reducible rfl))
        try simp only [Act.put, List.setIfInBounds_toArray, List.set_cons_zero, List.set_cons_succ]
        refine wpAnyH_ready (rs := [12]) (by kernel_rfl) (by simp) ?_
        refine AllReadyH.cons (o := { dst := some 123, op := Go.Op.call { callee := Go.Callee.value (Go.Operand.func 31), args := #[Go.Operand.tmp 116, Go.Operand.tmp 122], argTypes := #[56, 56] }, type := 4, pos := _, after := #[{ on := 5, ground := Go.Ground.data }, { on := 11, ground := Go.Ground.data }], guard := none }) rfl (fun K' hK' => ?_) AllReadyH.nil
        go_simp
        go_at_call 31
        refine (HEQ.out (World.drew wr) (Nat.le_refl _) (fun _ _ => rfl)).mono ?_
        rintro e w1 ⟨rfl, hb1⟩
        have E2 := ED.grow hb1
        have HB1 := hideIt hb1.block
        clear hb1
        clear hHeld
        refine hK'.out _ _ (HCELL.out _ HB1.out) (fun hHeld => ?_)
        clear hK' K'
        try simp only [Act.put, List.setIfInBounds_toArray, List.set_cons_zero, List.set_cons_succ]
        refine wpAnyH_take (i := 13) (oi := { dst := some 124, op := Go.Op.unOp Go.UnOp.not 4 (Go.Operand.tmp 123), type := 4, pos := _, after := #[{ on := 12, ground := Go.Ground.data }], guard := none }) (v := ?vv109) rfl (by kernel_rfl) (by kernel_rfl) (by kernel_rfl) (fun _ _ _ h => h) (Or.inl ⟨by rfl, ?hy109⟩) (by assumption) ?tk109
        case hy109 => (intro w hSw; (try dsimp only at hSw); go_simp; (try with_reducible rfl))
        try simp only [Act.put, List.setIfInBounds_toArray, List.set_cons_zero, List.set_cons_succ]
        refine wpAnyH_done (by kernel_rfl) ?_ _
        go_wp2
        go_roundg (16 - (i + 1))
        case measure => omega
        case rel => exact ⟨i + 1, by omega, by go_num, E2⟩
      · have e : i = 16 := by omega
        subst e
        go_wp2
        go_meet
        case rel => exact E
  case rest =>
  clear E
  have E := hcut
  clear hcut
  obtain ⟨⟨v1, x1, y1⟩, _⟩ := E.s.ends
  obtain ⟨⟨v2, x2, y2⟩, _⟩ := E.t.ends
  rw [← HQ.out.tm] at y2
  obtain ⟨p1, k1, rfl⟩ := y1.shape
  obtain ⟨p2, k2, rfl⟩ := y2.shape
  have hsz := E.s.lt
  have hsz2 := E.t.lt
  have HEQ : Hid (∀ wr' : World, wc.heap.size ≤ wr'.heap.size → (∀ k, k < wc.heap.size → wr'.heap[k]? = wc.heap[k]?) → Calls Tryz.prog 95 #[.slice p1 S.tm.length k1, .slice p2 S.tm.length k2] wr' fun e w' => e = .returned (.bool true) ∧ Below wr'.heap.size wr' w') := hideIt (fun wr' h1 h2 => eq_tms (y1.keep h1 (fun k _ hk => h2 k hk)) (y2.keep h1 (fun k _ hk => h2 k hk)) HZ.out.tm)
  have HCELL : Hid (∀ wr' : World, (∀ k, k < wc.heap.size → wr'.heap[k]? = wc.heap[k]?) → wr'.cell? ⟨b1, 121, none⟩ = some (.slice p1 S.tm.length k1) ∧ wr'.cell? ⟨b2, 121, none⟩ = some (.slice p2 S.tm.length k2)) := hideIt (fun wr' h2 => ⟨(World.cell?_of_block (a := ⟨b1, 121, none⟩) (h2 b1 hsz)).trans x1, (World.cell?_of_block (a := ⟨b2, 121, none⟩) (h2 b2 hsz2)).trans x2⟩)
  clear x1 x2 y1 y2 hsz hsz2
  generalize S.tm.length = n at *
  have ED := E.drew
  go_wp2_with fail
  refine wp_region_held_drew (S := (fun w' => w'.cell? ⟨b1, 121, none⟩ = some (.slice p1 n k1) ∧ w'.cell? ⟨b2, 121, none⟩ = some (.slice p2 n k2))) (by kernel_rfl) (HCELL.out _ (fun _ _ => rfl)) (fun hHeld => ?_)
  refine wpAnyH_take (i := 0) (oi := { dst := some 126, op := Go.Op.move (Go.Operand.tmp 0), type := 64, pos := _, after := #[], guard := none }) (v := ?vv110) rfl (by kernel_rfl) (by kernel_rfl) (by kernel_rfl) (fun _ _ _ h => h) (Or.inl ⟨by rfl, ?hy110⟩) (by assumption) ?tk110
  case hy110 => (intro w hSw; (try dsimp only at hSw); go_simp; (try with_reducible rfl))
  try simp only [Act.put, List.setIfInBounds_toArray, List.set_cons_zero, List.set_cons_succ]
  refine wpAnyH_take (i := 1) (oi := { dst := some 127, op := Go.Op.nilCheck (Go.Operand.tmp 126), type := 0, pos := _, after := #[{ on := 0, ground := Go.Ground.data }], guard := none }) (v := ?vv111) rfl (by kernel_rfl) (by kernel_rfl) (by kernel_rfl) (fun _ _ _ h => h) (Or.inl ⟨by rfl, ?hy111⟩) (by assumption) ?tk111
  case hy111 => (intro w hSw; (try dsimp only at hSw); go_simp; (try with_reducible rfl))
  try simp only [Act.put, List.setIfInBounds_toArray, List.set_cons_zero, List.set_cons_succ]
  refine wpAnyH_take (i := 2) (oi := { dst := some 128, op := Go.Op.fieldAddr 61 (Go.Operand.tmp 127) 5, type := 0, pos := _, after := #[{ on := 1, ground := Go.Ground.data }], guard := none }) (v := ?vv112) rfl (by kernel_rfl) (by kernel_rfl) (by kernel_rfl) (fun _ _ _ h => h) (Or.inl ⟨by rfl, ?hy112⟩) (by assumption) ?tk112
  case hy112 => (intro w hSw; (try dsimp only at hSw); go_simp; (try with_reducible rfl))
  try simp only [Act.put, List.setIfInBounds_toArray, List.set_cons_zero, List.set_cons_succ]
  refine wpAnyH_take (i := 3) (oi := { dst := some 129, op := Go.Op.load 59 (Go.Operand.tmp 128), type := 59, pos := _, after := #[{ on := 2, ground := Go.Ground.data }], guard := none }) (v := ?vv113) rfl (by kernel_rfl) (by kernel_rfl) (by kernel_rfl) (fun _ _ _ h => h) (Or.inl ⟨by rfl, ?hy113⟩) (by assumption) ?tk113
  case hy113 => (intro w hSw; (try dsimp only at hSw); go_simp; (try with_reducible rfl))
  try simp only [Act.put, List.setIfInBounds_toArray, List.set_cons_zero, List.set_cons_succ]
  refine wpAnyH_take (i := 4) (oi := { dst := some 130, op := Go.Op.move (Go.Operand.tmp 1), type := 64, pos := _, after := #[], guard := none }) (v := ?vv114) rfl (by kernel_rfl) (by kernel_rfl) (by kernel_rfl) (fun _ _ _ h => h) (Or.inl ⟨by rfl, ?hy114⟩) (by assumption) ?tk114
  case hy114 => (intro w hSw; (try dsimp only at hSw); go_simp; (try with_reducible rfl))
  try simp only [Act.put, List.setIfInBounds_toArray, List.set_cons_zero, List.set_cons_succ]
  refine wpAnyH_take (i := 5) (oi := { dst := some 131, op := Go.Op.nilCheck (Go.Operand.tmp 130), type := 0, pos := _, after := #[{ on := 4, ground := Go.Ground.data }], guard := none }) (v := ?vv115) rfl (by kernel_rfl) (by kernel_rfl) (by kernel_rfl) (fun _ _ _ h => h) (Or.inl ⟨by rfl, ?hy115⟩) (by assumption) ?tk115
  case hy115 => (intro w hSw; (try dsimp only at hSw); go_simp; (try with_reducible rfl))
  try simp only [Act.put, List.setIfInBounds_toArray, List.set_cons_zero, List.set_cons_succ]
  refine wpAnyH_take (i := 6) (oi := { dst := some 132, op := Go.Op.fieldAddr 61 (Go.Operand.tmp 131) 5, type := 0, pos := _, after := #[{ on := 5, ground := Go.Ground.data }], guard := none }) (v := ?vv116) rfl (by kernel_rfl) (by kernel_rfl) (by kernel_rfl) (fun _ _ _ h => h) (Or.inl ⟨by rfl, ?hy116⟩) (by assumption) ?tk116
  case hy116 => (intro w hSw; (try dsimp only at hSw); go_simp; (try with_reducible rfl))
  try simp only [Act.put, List.setIfInBounds_toArray, List.set_cons_zero, List.set_cons_succ]
  refine wpAnyH_take (i := 7) (oi := { dst := some 133, op := Go.Op.load 59 (Go.Operand.tmp 132), type := 59, pos := _, after := #[{ on := 6, ground := Go.Ground.data }], guard := none }) (v := ?vv117) rfl (by kernel_rfl) (by kernel_rfl) (by kernel_rfl) (fun _ _ _ h => h) (Or.inl ⟨by rfl, ?hy117⟩) (by assumption) ?tk117
  case hy117 => (intro w hSw; (try dsimp only at hSw); go_simp; (try with_reducible rfl))
  try simp only [Act.put, List.setIfInBounds_toArray, List.set_cons_zero, List.set_cons_succ]
  refine wpAnyH_ready (rs := [8]) (by kernel_rfl) (by simp) ?_
  refine AllReadyH.cons (o := { dst := some 134, op := Go.Op.call { callee := Go.Callee.value (Go.Operand.func 95), args := #[Go.Operand.tmp 129, Go.Operand.tmp 133], argTypes := #[59, 59] }, type := 4, pos := _, after := #[{ on := 3, ground := Go.Ground.data }, { on := 7, ground := Go.Ground.data }], guard := none }) rfl (fun K' hK' => ?_) AllReadyH.nil
  go_simp
  go_at_call 95
  refine (HEQ.out (World.drew wc) (Nat.le_refl _) (fun _ _ => rfl)).mono ?_
  rintro e w1 ⟨rfl, hb1⟩
  have E2 := ED.grow hb1
  have HB1 := hideIt hb1.block
  clear hb1
  clear hHeld
  refine hK'.out _ _ (HCELL.out _ HB1.out) (fun hHeld => ?_)
  clear hK' K'
  try simp only [Act.put, List.setIfInBounds_toArray, List.set_cons_zero, List.set_cons_succ]
  refine wpAnyH_take (i := 9) (oi := { dst := some 4, op := Go.Op.assign (Go.Operand.tmp 134), type := 4, pos := _, after := #[{ on := 8, ground := Go.Ground.data }, { on := 8, ground := Go.Ground.chain }, { on := 0, ground := Go.Ground.phase }, { on := 1, ground := Go.Ground.phase }, { on := 2, ground := Go.Ground.phase }, { on := 3, ground := Go.Ground.phase }, { on := 4, ground := Go.Ground.phase }, { on := 5, ground := Go.Ground.phase }, { on := 6, ground := Go.Ground.phase }, { on := 7, ground := Go.Ground.phase }, { on := 8, ground := Go.Ground.phase }], guard := none }) (v := ?vv118) rfl (by kernel_rfl) (by kernel_rfl) (by kernel_rfl) (fun _ _ _ h => h) (Or.inl ⟨by rfl, ?hy118⟩) (by assumption) ?tk118
  case hy118 => (intro w hSw; (try dsimp only at hSw); go_simp; (try with_reducible rfl))
  try simp only [Act.put, List.setIfInBounds_toArray, List.set_cons_zero, List.set_cons_succ]
  refine wpAnyH_done (by kernel_rfl) ?_ _
  go_wp2
  go_ret
  exact ⟨rfl, E2.b⟩
end Go.Proofs.Qxb6500877aGreatDoor
