import Derived.Test.Qxb6500877aGreatDoorSb0
set_option linter.unusedVariables false
set_option linter.unusedSimpArgs false
namespace Go.Proofs.Qxb6500877aGreatDoor
open Go.RowKit

set_option maxHeartbeats 4000000 in
theorem dequeue_A {w : World} {B : Nat} {s : Sched} {t h b : Nat} (H : SchedAt w B s) (ht : t < 16) (hh : h < 4) (hb : b < 4) (eh : (s.tk t).home = h) (eb : (s.tk t).band = b) (ep : (s.tk t).prev = -1) (en : (s.tk t).next = -1) (hq : 0 < s.qn h ∧ s.qn h < 1000) :
    Calls Tryz.prog 178 #[.pointer (some ⟨B, 6596, none⟩), .int .i64 (t : Int)] w fun e w' => e = .returned (.tuple #[]) ∧ SchedAt w' B (deqA s t h b) ∧ Mut B 6596 6724 w w' := by
  obtain ⟨t0, t1, t2, t3, t4⟩ := H.task ht
  obtain ⟨qk, q8, q9⟩ := H.queue hh
  obtain ⟨qh, qt⟩ := qk b hb
  clear qk t0
  rw [eh] at t1
  rw [eb] at t2
  rw [ep] at t3
  rw [en] at t4
  have i0 : (0 : Int) ≤ t := by omega
  have i1 : (t : Int) < 16 := by omega
  have j0 : (0 : Int) ≤ h := by omega
  have j1 : (h : Int) < 4 := by omega
  have k0 : (0 : Int) ≤ b := by omega
  have k1 : (b : Int) < 4 := by omega
  have fz := H.frz
  have n0 : ¬ (6676 + h * 10 + b * 2 = 6596 + t * 5 + 2) := by omega
  have n1 : ¬ (6596 + t * 5 + 2 = 6676 + h * 10 + b * 2) := by omega
  have n2 : ¬ (6676 + h * 10 + b * 2 = 6596 + t * 5 + 3) := by omega
  have n3 : ¬ (6596 + t * 5 + 3 = 6676 + h * 10 + b * 2) := by omega
  have n4 : ¬ (6676 + h * 10 + b * 2 = 6596 + t * 5 + 4) := by omega
  have n5 : ¬ (6596 + t * 5 + 4 = 6676 + h * 10 + b * 2) := by omega
  have n6 : ¬ (6676 + h * 10 + b * 2 = 6676 + h * 10 + 8) := by omega
  have n7 : ¬ (6676 + h * 10 + 8 = 6676 + h * 10 + b * 2) := by omega
  have n8 : ¬ (6676 + h * 10 + b * 2 = 6676 + h * 10 + 9) := by omega
  have n9 : ¬ (6676 + h * 10 + 9 = 6676 + h * 10 + b * 2) := by omega
  have n10 : ¬ (6676 + h * 10 + b * 2 = 6676 + h * 10 + b * 2 + 1) := by omega
  have n11 : ¬ (6676 + h * 10 + b * 2 + 1 = 6676 + h * 10 + b * 2) := by omega
  have n12 : ¬ (6676 + h * 10 + b * 2 + 1 = 6596 + t * 5 + 2) := by omega
  have n13 : ¬ (6596 + t * 5 + 2 = 6676 + h * 10 + b * 2 + 1) := by omega
  have n14 : ¬ (6676 + h * 10 + b * 2 + 1 = 6596 + t * 5 + 3) := by omega
  have n15 : ¬ (6596 + t * 5 + 3 = 6676 + h * 10 + b * 2 + 1) := by omega
  have n16 : ¬ (6676 + h * 10 + b * 2 + 1 = 6596 + t * 5 + 4) := by omega
  have n17 : ¬ (6596 + t * 5 + 4 = 6676 + h * 10 + b * 2 + 1) := by omega
  have n18 : ¬ (6676 + h * 10 + b * 2 + 1 = 6676 + h * 10 + 8) := by omega
  have n19 : ¬ (6676 + h * 10 + 8 = 6676 + h * 10 + b * 2 + 1) := by omega
  have n20 : ¬ (6676 + h * 10 + b * 2 + 1 = 6676 + h * 10 + 9) := by omega
  have n21 : ¬ (6676 + h * 10 + 9 = 6676 + h * 10 + b * 2 + 1) := by omega
  have n22 : ¬ (6596 + t * 5 + 3 = 6596 + t * 5 + 2) := by omega
  have n23 : ¬ (6596 + t * 5 + 2 = 6596 + t * 5 + 3) := by omega
  have n24 : ¬ (6596 + t * 5 + 3 = 6596 + t * 5 + 4) := by omega
  have n25 : ¬ (6596 + t * 5 + 4 = 6596 + t * 5 + 3) := by omega
  have n26 : ¬ (6596 + t * 5 + 3 = 6676 + h * 10 + 8) := by omega
  have n27 : ¬ (6676 + h * 10 + 8 = 6596 + t * 5 + 3) := by omega
  have n28 : ¬ (6596 + t * 5 + 3 = 6676 + h * 10 + 9) := by omega
  have n29 : ¬ (6676 + h * 10 + 9 = 6596 + t * 5 + 3) := by omega
  have n30 : ¬ (6596 + t * 5 + 4 = 6596 + t * 5 + 2) := by omega
  have n31 : ¬ (6596 + t * 5 + 2 = 6596 + t * 5 + 4) := by omega
  have n32 : ¬ (6596 + t * 5 + 4 = 6676 + h * 10 + 8) := by omega
  have n33 : ¬ (6676 + h * 10 + 8 = 6596 + t * 5 + 4) := by omega
  have n34 : ¬ (6596 + t * 5 + 4 = 6676 + h * 10 + 9) := by omega
  have n35 : ¬ (6676 + h * 10 + 9 = 6596 + t * 5 + 4) := by omega
  have n36 : ¬ (6676 + h * 10 + 8 = 6596 + t * 5 + 2) := by omega
  have n37 : ¬ (6596 + t * 5 + 2 = 6676 + h * 10 + 8) := by omega
  have n38 : ¬ (6676 + h * 10 + 8 = 6676 + h * 10 + 9) := by omega
  have n39 : ¬ (6676 + h * 10 + 9 = 6676 + h * 10 + 8) := by omega
  have n40 : ¬ (6676 + h * 10 + 9 = 6596 + t * 5 + 2) := by omega
  have n41 : ¬ (6596 + t * 5 + 2 = 6676 + h * 10 + 9) := by omega
  go_enter Tryz.func178, Tryz.ntmps178
  go_wp2
  go_region_held3 (fun w' => w'.cell? ⟨B, 6596 + t * 5 + 1, none⟩ = some (.int .i64 (h : Int))) (exact t1) (fail)
  go_wp2
  go_region_held3 (fun w' => w'.cell? ⟨B, 6596 + t * 5 + 2, none⟩ = some (.int .i8 (b : Int))) (exact t2) (fail)
  go_wp2
  refine wp_region_held_drew (S := (fun w' => w'.cell? ⟨B, 6596 + t * 5 + 2, none⟩ = some (.int .i8 (b : Int)))) (by kernel_rfl) (by go_simp) (fun hHeld => ?_)
  refine wpAnyH_take (i := 0) (oi := { dst := some 89, op := Go.Op.move (Go.Operand.tmp 5), type := 254, pos := _, after := #[], guard := none }) (v := ?vv13) rfl (by kernel_rfl) (by kernel_rfl) (by kernel_rfl) (fun _ _ _ h => h) (Or.inl ⟨by rfl, ?hy13⟩) (by assumption) ?tk13
  case hy13 => (intro w hSw; (try dsimp only at hSw); go_simp; (try with_reducible rfl))
  try simp only [Act.put, List.setIfInBounds_toArray, List.set_cons_zero, List.set_cons_succ]
  refine wpAnyH_take (i := 1) (oi := { dst := some 90, op := Go.Op.nilCheck (Go.Operand.tmp 89), type := 0, pos := _, after := #[{ on := 0, ground := Go.Ground.data }], guard := none }) (v := ?vv14) rfl (by kernel_rfl) (by kernel_rfl) (by kernel_rfl) (fun _ _ _ h => h) (Or.inl ⟨by rfl, ?hy14⟩) (by assumption) ?tk14
  case hy14 => (intro w hSw; (try dsimp only at hSw); go_simp; (try with_reducible rfl))
  try simp only [Act.put, List.setIfInBounds_toArray, List.set_cons_zero, List.set_cons_succ]
  refine wpAnyH_take (i := 2) (oi := { dst := some 91, op := Go.Op.fieldAddr 183 (Go.Operand.tmp 90) 1, type := 0, pos := _, after := #[{ on := 1, ground := Go.Ground.data }], guard := none }) (v := ?vv15) rfl (by kernel_rfl) (by kernel_rfl) (by kernel_rfl) (fun _ _ _ h => h) (Or.inl ⟨by rfl, ?hy15⟩) (by assumption) ?tk15
  case hy15 => (intro w hSw; (try dsimp only at hSw); go_simp; (try with_reducible rfl))
  try simp only [Act.put, List.setIfInBounds_toArray, List.set_cons_zero, List.set_cons_succ]
  refine wpAnyH_take (i := 4) (oi := { dst := some 93, op := Go.Op.move (Go.Operand.tmp 4), type := 220, pos := _, after := #[], guard := none }) (v := ?vv16) rfl (by kernel_rfl) (by kernel_rfl) (by kernel_rfl) (fun _ _ _ h => h) (Or.inl ⟨by rfl, ?hy16⟩) (by assumption) ?tk16
  case hy16 => (intro w hSw; (try dsimp only at hSw); go_simp; (try with_reducible rfl))
  try simp only [Act.put, List.setIfInBounds_toArray, List.set_cons_zero, List.set_cons_succ]
  refine wpAnyH_take (i := 5) (oi := { dst := some 94, op := Go.Op.nilCheck (Go.Operand.tmp 93), type := 0, pos := _, after := #[{ on := 4, ground := Go.Ground.data }], guard := none }) (v := ?vv17) rfl (by kernel_rfl) (by kernel_rfl) (by kernel_rfl) (fun _ _ _ h => h) (Or.inl ⟨by rfl, ?hy17⟩) (by assumption) ?tk17
  case hy17 => (intro w hSw; (try dsimp only at hSw); go_simp; (try with_reducible rfl))
  try simp only [Act.put, List.setIfInBounds_toArray, List.set_cons_zero, List.set_cons_succ]
  refine wpAnyH_take (i := 6) (oi := { dst := some 95, op := Go.Op.fieldAddr 177 (Go.Operand.tmp 94) 2, type := 0, pos := _, after := #[{ on := 5, ground := Go.Ground.data }], guard := none }) (v := ?vv18) rfl (by kernel_rfl) (by kernel_rfl) (by kernel_rfl) (fun _ _ _ h => h) (Or.inl ⟨by rfl, ?hy18⟩) (by assumption) ?tk18
  case hy18 => (intro w hSw; (try dsimp only at hSw); go_simp; (try with_reducible rfl))
  try simp only [Act.put, List.setIfInBounds_toArray, List.set_cons_zero, List.set_cons_succ]
  refine wpAnyH_take (i := 7) (oi := { dst := some 96, op := Go.Op.load 157 (Go.Operand.tmp 95), type := 157, pos := _, after := #[{ on := 6, ground := Go.Ground.data }], guard := none }) (v := ?vv19) rfl (by kernel_rfl) (by kernel_rfl) (by kernel_rfl) (fun _ _ _ h => h) (Or.inl ⟨by rfl, ?hy19⟩) (by assumption) ?tk19
  case hy19 => (intro w hSw; (try dsimp only at hSw); go_simp; (try with_reducible rfl))
  try simp only [Act.put, List.setIfInBounds_toArray, List.set_cons_zero, List.set_cons_succ]
  refine wpAnyH_take (i := 8) (oi := { dst := some 97, op := Go.Op.convert 157 275 (Go.Operand.tmp 96), type := 275, pos := _, after := #[{ on := 7, ground := Go.Ground.data }], guard := none }) (v := ?vv20) rfl (by kernel_rfl) (by kernel_rfl) (by kernel_rfl) (fun _ _ _ h => h) (Or.inl ⟨by rfl, ?hy20⟩) (by assumption) ?tk20
  case hy20 => (intro w hSw; (try dsimp only at hSw); go_simp; (try with_reducible rfl))
  try simp only [Act.put, List.setIfInBounds_toArray, List.set_cons_zero, List.set_cons_succ]
  refine wpAnyH_take (i := 9) (oi := { dst := some 98, op := Go.Op.binOp Go.BinOp.shl 5 (Go.Operand.const (Go.Value.int Go.IntKind.u8 1)) (Go.Operand.tmp 97) 275, type := 5, pos := _, after := #[{ on := 8, ground := Go.Ground.data }], guard := none }) (v := ?vv21) rfl (by kernel_rfl) (by kernel_rfl) (by kernel_rfl) (fun _ _ _ h => h) (Or.inl ⟨by rfl, ?hy21⟩) (by assumption) ?tk21
  case hy21 => (intro w hSw; (try dsimp only at hSw); go_simp; (try with_reducible rfl))
  try simp only [Act.put, List.setIfInBounds_toArray, List.set_cons_zero, List.set_cons_succ]
  refine wpAnyH_ready (rs := [3]) (by kernel_rfl) (by simp) ?_
  refine AllReadyH.cons (o := { dst := some 92, op := Go.Op.load 5 (Go.Operand.tmp 91), type := 5, pos := _, after := #[{ on := 2, ground := Go.Ground.data }], guard := none }) rfl (fun K' hK' => ?_) AllReadyH.nil
  go_simp
  clear hHeld
  refine hK'.out _ _ (by go_simp) (fun hHeld => ?_)
  clear hK' K'
  try simp only [Act.put, List.setIfInBounds_toArray, List.set_cons_zero, List.set_cons_succ]
  refine wpAnyH_take (i := 10) (oi := { dst := some 99, op := Go.Op.binOp Go.BinOp.andNot 5 (Go.Operand.tmp 92) (Go.Operand.tmp 98) 5, type := 5, pos := _, after := #[{ on := 3, ground := Go.Ground.data }, { on := 9, ground := Go.Ground.data }], guard := none }) (v := ?vv22) rfl (by kernel_rfl) (by kernel_rfl) (by kernel_rfl) (fun _ _ _ h => h) (Or.inl ⟨by rfl, ?hy22⟩) (by assumption) ?tk22
  case hy22 => (intro w hSw; (try dsimp only at hSw); go_simp; (try with_reducible rfl))
  try simp only [Act.put, List.setIfInBounds_toArray, List.set_cons_zero, List.set_cons_succ]
  refine wpAnyH_take (i := 11) (oi := { dst := some 100, op := Go.Op.nilCheck (Go.Operand.tmp 89), type := 0, pos := _, after := #[{ on := 0, ground := Go.Ground.data }, { on := 0, ground := Go.Ground.phase }, { on := 1, ground := Go.Ground.phase }, { on := 2, ground := Go.Ground.phase }, { on := 3, ground := Go.Ground.phase }, { on := 4, ground := Go.Ground.phase }, { on := 5, ground := Go.Ground.phase }, { on := 6, ground := Go.Ground.phase }, { on := 7, ground := Go.Ground.phase }, { on := 8, ground := Go.Ground.phase }, { on := 9, ground := Go.Ground.phase }, { on := 10, ground := Go.Ground.phase }], guard := none }) (v := ?vv23) rfl (by kernel_rfl) (by kernel_rfl) (by kernel_rfl) (fun _ _ _ h => h) (Or.inl ⟨by rfl, ?hy23⟩) (by assumption) ?tk23
  case hy23 => (intro w hSw; (try dsimp only at hSw); go_simp; (try with_reducible rfl))
  try simp only [Act.put, List.setIfInBounds_toArray, List.set_cons_zero, List.set_cons_succ]
  refine wpAnyH_take (i := 12) (oi := { dst := some 101, op := Go.Op.fieldAddr 183 (Go.Operand.tmp 100) 1, type := 0, pos := _, after := #[{ on := 11, ground := Go.Ground.data }, { on := 0, ground := Go.Ground.phase }, { on := 1, ground := Go.Ground.phase }, { on := 2, ground := Go.Ground.phase }, { on := 3, ground := Go.Ground.phase }, { on := 4, ground := Go.Ground.phase }, { on := 5, ground := Go.Ground.phase }, { on := 6, ground := Go.Ground.phase }, { on := 7, ground := Go.Ground.phase }, { on := 8, ground := Go.Ground.phase }, { on := 9, ground := Go.Ground.phase }, { on := 10, ground := Go.Ground.phase }], guard := none }) (v := ?vv24) rfl (by kernel_rfl) (by kernel_rfl) (by kernel_rfl) (fun _ _ _ h => h) (Or.inl ⟨by rfl, ?hy24⟩) (by assumption) ?tk24
  case hy24 => (intro w hSw; (try dsimp only at hSw); go_simp; (try with_reducible rfl))
  try simp only [Act.put, List.setIfInBounds_toArray, List.set_cons_zero, List.set_cons_succ]
  refine wpAnyH_ready (rs := [13]) (by kernel_rfl) (by simp) ?_
  refine AllReadyH.cons (o := { dst := none, op := Go.Op.store 5 (Go.Operand.tmp 101) (Go.Operand.tmp 99), type := 0, pos := _, after := #[{ on := 12, ground := Go.Ground.data }, { on := 10, ground := Go.Ground.data }, { on := 0, ground := Go.Ground.phase }, { on := 1, ground := Go.Ground.phase }, { on := 2, ground := Go.Ground.phase }, { on := 3, ground := Go.Ground.phase }, { on := 4, ground := Go.Ground.phase }, { on := 5, ground := Go.Ground.phase }, { on := 6, ground := Go.Ground.phase }, { on := 7, ground := Go.Ground.phase }, { on := 8, ground := Go.Ground.phase }, { on := 9, ground := Go.Ground.phase }, { on := 10, ground := Go.Ground.phase }], guard := none }) rfl (fun K' hK' => ?_) AllReadyH.nil
  go_simp
  clear hHeld
  refine hK'.out _ _ (by go_simp) (fun hHeld => ?_)
  clear hK' K'
  try simp only [Act.put, List.setIfInBounds_toArray, List.set_cons_zero, List.set_cons_succ]
  refine wpAnyH_done (by kernel_rfl) ?_ _
  go_wp2
  go_end0
  exact ⟨rfl, ((((((H.putHd hh hb _).putTl hh hb _).putPrev ht _).putNext ht _).putFl hh _).putQn hh _).drew.drew.drew, (((((((Mut.refl B 6596 6724 _).setCell (by omega) (by omega) _).setCell (by omega) (by omega) _).setCell (by omega) (by omega) _).setCell (by omega) (by omega) _).setCell (by omega) (by omega) _).setCell (by omega) (by omega) _).drew.drew.drew⟩

set_option maxHeartbeats 4000000 in
theorem dequeue_B {w : World} {B : Nat} {s : Sched} {t h b n : Nat} (H : SchedAt w B s) (ht : t < 16) (hh : h < 4) (hb : b < 4) (eh : (s.tk t).home = h) (eb : (s.tk t).band = b) (ep : (s.tk t).prev = -1) (hn : n < 16) (hnt : n ≠ t) (en : (s.tk t).next = n) (hq : 0 < s.qn h ∧ s.qn h < 1000) :
    Calls Tryz.prog 178 #[.pointer (some ⟨B, 6596, none⟩), .int .i64 (t : Int)] w fun e w' => e = .returned (.tuple #[]) ∧ SchedAt w' B (deqB s t h b n) ∧ Mut B 6596 6724 w w' := by
  obtain ⟨t0, t1, t2, t3, t4⟩ := H.task ht
  obtain ⟨qk, q8, q9⟩ := H.queue hh
  obtain ⟨qh, qt⟩ := qk b hb
  clear qk t0
  rw [eh] at t1
  rw [eb] at t2
  rw [ep] at t3
  rw [en] at t4
  have i0 : (0 : Int) ≤ t := by omega
  have i1 : (t : Int) < 16 := by omega
  have j0 : (0 : Int) ≤ h := by omega
  have j1 : (h : Int) < 4 := by omega
  have k0 : (0 : Int) ≤ b := by omega
  have k1 : (b : Int) < 4 := by omega
  have fz := H.frz
  have m0 : (0 : Int) ≤ n := by omega
  have m1 : (n : Int) < 16 := by omega
  obtain ⟨_, _, _, n3, _⟩ := H.task hn
  have hnb : ((n : Int) == -1) = false := by simp <;> omega
  have n0 : ¬ (6676 + h * 10 + b * 2 = 6596 + t * 5 + 2) := by omega
  have n1 : ¬ (6596 + t * 5 + 2 = 6676 + h * 10 + b * 2) := by omega
  have n2 : ¬ (6676 + h * 10 + b * 2 = 6596 + t * 5 + 3) := by omega
  have n3 : ¬ (6596 + t * 5 + 3 = 6676 + h * 10 + b * 2) := by omega
  have n4 : ¬ (6676 + h * 10 + b * 2 = 6596 + t * 5 + 4) := by omega
  have n5 : ¬ (6596 + t * 5 + 4 = 6676 + h * 10 + b * 2) := by omega
  have n6 : ¬ (6676 + h * 10 + b * 2 = 6676 + h * 10 + 8) := by omega
  have n7 : ¬ (6676 + h * 10 + 8 = 6676 + h * 10 + b * 2) := by omega
  have n8 : ¬ (6676 + h * 10 + b * 2 = 6676 + h * 10 + 9) := by omega
  have n9 : ¬ (6676 + h * 10 + 9 = 6676 + h * 10 + b * 2) := by omega
  have n10 : ¬ (6676 + h * 10 + b * 2 = 6596 + n * 5 + 3) := by omega
  have n11 : ¬ (6596 + n * 5 + 3 = 6676 + h * 10 + b * 2) := by omega
  have n12 : ¬ (6596 + n * 5 + 3 = 6596 + t * 5 + 2) := by omega
  have n13 : ¬ (6596 + t * 5 + 2 = 6596 + n * 5 + 3) := by omega
  have n14 : ¬ (6596 + n * 5 + 3 = 6596 + t * 5 + 3) := by omega
  have n15 : ¬ (6596 + t * 5 + 3 = 6596 + n * 5 + 3) := by omega
  have n16 : ¬ (6596 + n * 5 + 3 = 6596 + t * 5 + 4) := by omega
  have n17 : ¬ (6596 + t * 5 + 4 = 6596 + n * 5 + 3) := by omega
  have n18 : ¬ (6596 + n * 5 + 3 = 6676 + h * 10 + 8) := by omega
  have n19 : ¬ (6676 + h * 10 + 8 = 6596 + n * 5 + 3) := by omega
  have n20 : ¬ (6596 + n * 5 + 3 = 6676 + h * 10 + 9) := by omega
  have n21 : ¬ (6676 + h * 10 + 9 = 6596 + n * 5 + 3) := by omega
  have n22 : ¬ (6596 + t * 5 + 3 = 6596 + t * 5 + 2) := by omega
  have n23 : ¬ (6596 + t * 5 + 2 = 6596 + t * 5 + 3) := by omega
  have n24 : ¬ (6596 + t * 5 + 3 = 6596 + t * 5 + 4) := by omega
  have n25 : ¬ (6596 + t * 5 + 4 = 6596 + t * 5 + 3) := by omega
  have n26 : ¬ (6596 + t * 5 + 3 = 6676 + h * 10 + 8) := by omega
  have n27 : ¬ (6676 + h * 10 + 8 = 6596 + t * 5 + 3) := by omega
  have n28 : ¬ (6596 + t * 5 + 3 = 6676 + h * 10 + 9) := by omega
  have n29 : ¬ (6676 + h * 10 + 9 = 6596 + t * 5 + 3) := by omega
  have n30 : ¬ (6596 + t * 5 + 4 = 6596 + t * 5 + 2) := by omega
  have n31 : ¬ (6596 + t * 5 + 2 = 6596 + t * 5 + 4) := by omega
  have n32 : ¬ (6596 + t * 5 + 4 = 6676 + h * 10 + 8) := by omega
  have n33 : ¬ (6676 + h * 10 + 8 = 6596 + t * 5 + 4) := by omega
  have n34 : ¬ (6596 + t * 5 + 4 = 6676 + h * 10 + 9) := by omega
  have n35 : ¬ (6676 + h * 10 + 9 = 6596 + t * 5 + 4) := by omega
  have n36 : ¬ (6676 + h * 10 + 9 = 6596 + t * 5 + 2) := by omega
  have n37 : ¬ (6596 + t * 5 + 2 = 6676 + h * 10 + 9) := by omega
  have n38 : ¬ (6676 + h * 10 + 9 = 6676 + h * 10 + 8) := by omega
  have n39 : ¬ (6676 + h * 10 + 8 = 6676 + h * 10 + 9) := by omega
  go_enter Tryz.func178, Tryz.ntmps178
  go_wp2
  go_region_held3 (fun w' => w'.cell? ⟨B, 6596 + t * 5 + 1, none⟩ = some (.int .i64 (h : Int))) (exact t1) (fail)
  go_wp2
  go_region_held3 (fun w' => w'.cell? ⟨B, 6596 + t * 5 + 2, none⟩ = some (.int .i8 (b : Int))) (exact t2) (fail)
  go_wp2
  go_region_held3 (fun w' => w'.cell? ⟨B, 6596 + t * 5 + 3, none⟩ = some (.int .i8 (-1)) ∧ w'.cell? ⟨B, 6596 + t * 5 + 4, none⟩ = some (.int .i8 (n : Int))) (refine ⟨?_, ?_⟩ <;> go_simp) (fail)
  go_wp2
  go_end0
  exact ⟨rfl, (((((H.putHd hh hb _).putPrev hn _).putPrev ht _).putNext ht _).putQn hh _).drew.drew.drew, ((((((Mut.refl B 6596 6724 _).setCell (by omega) (by omega) _).setCell (by omega) (by omega) _).setCell (by omega) (by omega) _).setCell (by omega) (by omega) _).setCell (by omega) (by omega) _).drew.drew.drew⟩

end Go.Proofs.Qxb6500877aGreatDoor
