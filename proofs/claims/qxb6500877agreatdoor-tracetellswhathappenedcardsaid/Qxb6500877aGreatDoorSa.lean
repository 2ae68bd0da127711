import Derived.Test.Qxb6500877aGreatDoorBa
set_option linter.unusedVariables false
set_option linter.unusedSimpArgs false
namespace Go.Proofs.Qxb6500877aGreatDoor
open Go.RowKit

/-- A bit laid into a mask, as the machine has it. -/
def orBit (m : Int) (b : Nat) : Int := bits .or .u8 m (2 ^ min b 8 % 256)
def notBit (m : Int) (b : Nat) : Int := bits .andNot .u8 m (2 ^ min b 8 % 256)

set_option maxHeartbeats 1000000 in
theorem runnable_any {w : World} {B : Nat} {s : Sched} {c : Nat} (h : SchedAt w B s) (hc : c < 4) :
    Calls Tryz.prog 127 #[.pointer (some ⟨B, 6596, none⟩), .int .i64 (c : Int)] w fun e w' => e = .returned (.bool (decide (s.cur c ≠ -1 ∨ 0 < s.qn c))) ∧ w' = w := by
  obtain ⟨c0, c1⟩ := h.core hc
  obtain ⟨_, q8, q9⟩ := h.queue hc
  have i0 : (0 : Int) ≤ c := by omega
  have i1 : (c : Int) < 4 := by omega
  by_cases h1 : s.cur c = -1
  · by_cases h2 : 0 < s.qn c
    · go_enter Tryz.func127, Tryz.ntmps127
      go_wp2
      go_ret
      exact ⟨by simp [h2], rfl⟩
    · go_enter Tryz.func127, Tryz.ntmps127
      go_wp2
      go_ret
      exact ⟨by simp [h1, h2], rfl⟩
  · have hb : (s.cur c == -1) = false := by simpa using h1
    go_enter Tryz.func127, Tryz.ntmps127
    go_wp2
    go_ret
    exact ⟨by simp [h1], rfl⟩

/-- The task's row read as it stands: its core, its band. -/
def enqNil (s : Sched) (t h b : Nat) : Sched := ((((((s.pSt t 2).pPrev t (-1)).pNext t (-1)).setHd h b t).setTl h b t).setFl h (orBit (s.fl h) b)).setQn h (s.qn h + 1)
def enqAt (s : Sched) (t h b u : Nat) : Sched := ((((((s.pSt t 2).pPrev t u).pNext t (-1)).pNext u t).setTl h b t).setFl h (orBit (s.fl h) b)).setQn h (s.qn h + 1)

set_option maxHeartbeats 4000000 in
theorem enqueue_nil {w : World} {B : Nat} {s : Sched} {t h b : Nat} (H : SchedAt w B s) (ht : t < 16) (hh : h < 4) (hb : b < 4) (eh : (s.tk t).home = h) (eb : (s.tk t).band = b) (etl : s.tl h b = -1) (hq : 0 ≤ s.qn h ∧ s.qn h < 1000) :
    Calls Tryz.prog 176 #[.pointer (some ⟨B, 6596, none⟩), .int .i64 (t : Int)] w fun e w' => e = .returned (.tuple #[]) ∧ SchedAt w' B (enqNil s t h b) ∧ Mut B 6596 6724 w w' := by
  obtain ⟨t0, t1, t2, t3, t4⟩ := H.task ht
  obtain ⟨qk, q8, q9⟩ := H.queue hh
  obtain ⟨qh, qt⟩ := qk b hb
  clear qk
  rw [eh] at t1
  rw [eb] at t2
  rw [etl] at qt
  have i0 : (0 : Int) ≤ t := by omega
  have i1 : (t : Int) < 16 := by omega
  have j0 : (0 : Int) ≤ h := by omega
  have j1 : (h : Int) < 4 := by omega
  have k0 : (0 : Int) ≤ b := by omega
  have k1 : (b : Int) < 4 := by omega
  have fz := H.frz
  have hwt : IntKind.i8.wrap (t : Int) = t := wrap_i8 (by omega)
  have n0 : ¬ (6596 + t * 5 = 6596 + t * 5 + 2) := by omega
  have n1 : ¬ (6596 + t * 5 + 2 = 6596 + t * 5) := by omega
  have n2 : ¬ (6596 + t * 5 = 6596 + t * 5 + 3) := by omega
  have n3 : ¬ (6596 + t * 5 + 3 = 6596 + t * 5) := by omega
  have n4 : ¬ (6596 + t * 5 = 6596 + t * 5 + 4) := by omega
  have n5 : ¬ (6596 + t * 5 + 4 = 6596 + t * 5) := by omega
  have n6 : ¬ (6596 + t * 5 = 6676 + h * 10 + b * 2 + 1) := by omega
  have n7 : ¬ (6676 + h * 10 + b * 2 + 1 = 6596 + t * 5) := by omega
  have n8 : ¬ (6596 + t * 5 = 6676 + h * 10 + b * 2) := by omega
  have n9 : ¬ (6676 + h * 10 + b * 2 = 6596 + t * 5) := by omega
  have n10 : ¬ (6596 + t * 5 = 6676 + h * 10 + 8) := by omega
  have n11 : ¬ (6676 + h * 10 + 8 = 6596 + t * 5) := by omega
  have n12 : ¬ (6596 + t * 5 = 6676 + h * 10 + 9) := by omega
  have n13 : ¬ (6676 + h * 10 + 9 = 6596 + t * 5) := by omega
  have n14 : ¬ (6596 + t * 5 + 3 = 6596 + t * 5 + 2) := by omega
  have n15 : ¬ (6596 + t * 5 + 2 = 6596 + t * 5 + 3) := by omega
  have n16 : ¬ (6596 + t * 5 + 3 = 6596 + t * 5 + 4) := by omega
  have n17 : ¬ (6596 + t * 5 + 4 = 6596 + t * 5 + 3) := by omega
  have n18 : ¬ (6596 + t * 5 + 3 = 6676 + h * 10 + b * 2 + 1) := by omega
  have n19 : ¬ (6676 + h * 10 + b * 2 + 1 = 6596 + t * 5 + 3) := by omega
  have n20 : ¬ (6596 + t * 5 + 3 = 6676 + h * 10 + b * 2) := by omega
  have n21 : ¬ (6676 + h * 10 + b * 2 = 6596 + t * 5 + 3) := by omega
  have n22 : ¬ (6596 + t * 5 + 3 = 6676 + h * 10 + 8) := by omega
  have n23 : ¬ (6676 + h * 10 + 8 = 6596 + t * 5 + 3) := by omega
  have n24 : ¬ (6596 + t * 5 + 3 = 6676 + h * 10 + 9) := by omega
  have n25 : ¬ (6676 + h * 10 + 9 = 6596 + t * 5 + 3) := by omega
  have n26 : ¬ (6596 + t * 5 + 4 = 6596 + t * 5 + 2) := by omega
  have n27 : ¬ (6596 + t * 5 + 2 = 6596 + t * 5 + 4) := by omega
  have n28 : ¬ (6596 + t * 5 + 4 = 6676 + h * 10 + b * 2 + 1) := by omega
  have n29 : ¬ (6676 + h * 10 + b * 2 + 1 = 6596 + t * 5 + 4) := by omega
  have n30 : ¬ (6596 + t * 5 + 4 = 6676 + h * 10 + b * 2) := by omega
  have n31 : ¬ (6676 + h * 10 + b * 2 = 6596 + t * 5 + 4) := by omega
  have n32 : ¬ (6596 + t * 5 + 4 = 6676 + h * 10 + 8) := by omega
  have n33 : ¬ (6676 + h * 10 + 8 = 6596 + t * 5 + 4) := by omega
  have n34 : ¬ (6596 + t * 5 + 4 = 6676 + h * 10 + 9) := by omega
  have n35 : ¬ (6676 + h * 10 + 9 = 6596 + t * 5 + 4) := by omega
  have n36 : ¬ (6676 + h * 10 + b * 2 = 6596 + t * 5 + 2) := by omega
  have n37 : ¬ (6596 + t * 5 + 2 = 6676 + h * 10 + b * 2) := by omega
  have n38 : ¬ (6676 + h * 10 + b * 2 = 6676 + h * 10 + b * 2 + 1) := by omega
  have n39 : ¬ (6676 + h * 10 + b * 2 + 1 = 6676 + h * 10 + b * 2) := by omega
  have n40 : ¬ (6676 + h * 10 + b * 2 = 6676 + h * 10 + 8) := by omega
  have n41 : ¬ (6676 + h * 10 + 8 = 6676 + h * 10 + b * 2) := by omega
  have n42 : ¬ (6676 + h * 10 + b * 2 = 6676 + h * 10 + 9) := by omega
  have n43 : ¬ (6676 + h * 10 + 9 = 6676 + h * 10 + b * 2) := by omega
  have n44 : ¬ (6676 + h * 10 + b * 2 + 1 = 6596 + t * 5 + 2) := by omega
  have n45 : ¬ (6596 + t * 5 + 2 = 6676 + h * 10 + b * 2 + 1) := by omega
  have n46 : ¬ (6676 + h * 10 + b * 2 + 1 = 6676 + h * 10 + 8) := by omega
  have n47 : ¬ (6676 + h * 10 + 8 = 6676 + h * 10 + b * 2 + 1) := by omega
  have n48 : ¬ (6676 + h * 10 + b * 2 + 1 = 6676 + h * 10 + 9) := by omega
  have n49 : ¬ (6676 + h * 10 + 9 = 6676 + h * 10 + b * 2 + 1) := by omega
  have n50 : ¬ (6676 + h * 10 + 8 = 6596 + t * 5 + 2) := by omega
  have n51 : ¬ (6596 + t * 5 + 2 = 6676 + h * 10 + 8) := by omega
  have n52 : ¬ (6676 + h * 10 + 8 = 6676 + h * 10 + 9) := by omega
  have n53 : ¬ (6676 + h * 10 + 9 = 6676 + h * 10 + 8) := by omega
  have n54 : ¬ (6676 + h * 10 + 9 = 6596 + t * 5 + 2) := by omega
  have n55 : ¬ (6596 + t * 5 + 2 = 6676 + h * 10 + 9) := by omega
  go_enter Tryz.func176, Tryz.ntmps176
  go_wp2
  go_region_held3 (fun w' => w'.cell? ⟨B, 6596 + t * 5 + 1, none⟩ = some (.int .i64 (h : Int))) (exact t1) (fail)
  go_wp2
  go_region_held3 (fun w' => w'.cell? ⟨B, 6596 + t * 5 + 2, none⟩ = some (.int .i8 (b : Int))) (exact t2) (fail)
  go_wp2
  refine wp_region_held_drew (S := (fun w' => w'.cell? ⟨B, 6596 + t * 5 + 2, none⟩ = some (.int .i8 (b : Int)))) (by kernel_rfl) (by go_simp) (fun hHeld => ?_)
  refine wpAnyH_take (i := 0) (oi := { dst := some 67, op := Go.Op.move (Go.Operand.tmp 5), type := 254, pos := _, after := #[], guard := none }) (v := ?vv1) rfl (by kernel_rfl) (by kernel_rfl) (by kernel_rfl) (fun _ _ _ h => h) (Or.inl ⟨by rfl, ?hy1⟩) (by assumption) ?tk1
  case hy1 => (intro w hSw; (try dsimp only at hSw); go_simp; (try with_reducible rfl))
  try simp only [Act.put, List.setIfInBounds_toArray, List.set_cons_zero, List.set_cons_succ]
  refine wpAnyH_take (i := 1) (oi := { dst := some 68, op := Go.Op.nilCheck (Go.Operand.tmp 67), type := 0, pos := _, after := #[{ on := 0, ground := Go.Ground.data }], guard := none }) (v := ?vv2) rfl (by kernel_rfl) (by kernel_rfl) (by kernel_rfl) (fun _ _ _ h => h) (Or.inl ⟨by rfl, ?hy2⟩) (by assumption) ?tk2
  case hy2 => (intro w hSw; (try dsimp only at hSw); go_simp; (try with_reducible rfl))
  try simp only [Act.put, List.setIfInBounds_toArray, List.set_cons_zero, List.set_cons_succ]
  refine wpAnyH_take (i := 2) (oi := { dst := some 69, op := Go.Op.fieldAddr 183 (Go.Operand.tmp 68) 1, type := 0, pos := _, after := #[{ on := 1, ground := Go.Ground.data }], guard := none }) (v := ?vv3) rfl (by kernel_rfl) (by kernel_rfl) (by kernel_rfl) (fun _ _ _ h => h) (Or.inl ⟨by rfl, ?hy3⟩) (by assumption) ?tk3
  case hy3 => (intro w hSw; (try dsimp only at hSw); go_simp; (try with_reducible rfl))
  try simp only [Act.put, List.setIfInBounds_toArray, List.set_cons_zero, List.set_cons_succ]
  refine wpAnyH_take (i := 4) (oi := { dst := some 71, op := Go.Op.move (Go.Operand.tmp 4), type := 220, pos := _, after := #[], guard := none }) (v := ?vv4) rfl (by kernel_rfl) (by kernel_rfl) (by kernel_rfl) (fun _ _ _ h => h) (Or.inl ⟨by rfl, ?hy4⟩) (by assumption) ?tk4
  case hy4 => (intro w hSw; (try dsimp only at hSw); go_simp; (try with_reducible rfl))
  try simp only [Act.put, List.setIfInBounds_toArray, List.set_cons_zero, List.set_cons_succ]
  refine wpAnyH_take (i := 5) (oi := { dst := some 72, op := Go.Op.nilCheck (Go.Operand.tmp 71), type := 0, pos := _, after := #[{ on := 4, ground := Go.Ground.data }], guard := none }) (v := ?vv5) rfl (by kernel_rfl) (by kernel_rfl) (by kernel_rfl) (fun _ _ _ h => h) (Or.inl ⟨by rfl, ?hy5⟩) (by assumption) ?tk5
  case hy5 => (intro w hSw; (try dsimp only at hSw); go_simp; (try with_reducible rfl))
  try simp only [Act.put, List.setIfInBounds_toArray, List.set_cons_zero, List.set_cons_succ]
  refine wpAnyH_take (i := 6) (oi := { dst := some 73, op := Go.Op.fieldAddr 177 (Go.Operand.tmp 72) 2, type := 0, pos := _, after := #[{ on := 5, ground := Go.Ground.data }], guard := none }) (v := ?vv6) rfl (by kernel_rfl) (by kernel_rfl) (by kernel_rfl) (fun _ _ _ h => h) (Or.inl ⟨by rfl, ?hy6⟩) (by assumption) ?tk6
  case hy6 => (intro w hSw; (try dsimp only at hSw); go_simp; (try with_reducible rfl))
  try simp only [Act.put, List.setIfInBounds_toArray, List.set_cons_zero, List.set_cons_succ]
  refine wpAnyH_take (i := 7) (oi := { dst := some 74, op := Go.Op.load 157 (Go.Operand.tmp 73), type := 157, pos := _, after := #[{ on := 6, ground := Go.Ground.data }], guard := none }) (v := ?vv7) rfl (by kernel_rfl) (by kernel_rfl) (by kernel_rfl) (fun _ _ _ h => h) (Or.inl ⟨by rfl, ?hy7⟩) (by assumption) ?tk7
  case hy7 => (intro w hSw; (try dsimp only at hSw); go_simp; (try with_reducible rfl))
  try simp only [Act.put, List.setIfInBounds_toArray, List.set_cons_zero, List.set_cons_succ]
  refine wpAnyH_take (i := 8) (oi := { dst := some 75, op := Go.Op.convert 157 275 (Go.Operand.tmp 74), type := 275, pos := _, after := #[{ on := 7, ground := Go.Ground.data }], guard := none }) (v := ?vv8) rfl (by kernel_rfl) (by kernel_rfl) (by kernel_rfl) (fun _ _ _ h => h) (Or.inl ⟨by rfl, ?hy8⟩) (by assumption) ?tk8
  case hy8 => (intro w hSw; (try dsimp only at hSw); go_simp; (try with_reducible rfl))
  try simp only [Act.put, List.setIfInBounds_toArray, List.set_cons_zero, List.set_cons_succ]
  refine wpAnyH_take (i := 9) (oi := { dst := some 76, op := Go.Op.binOp Go.BinOp.shl 5 (Go.Operand.const (Go.Value.int Go.IntKind.u8 1)) (Go.Operand.tmp 75) 275, type := 5, pos := _, after := #[{ on := 8, ground := Go.Ground.data }], guard := none }) (v := ?vv9) rfl (by kernel_rfl) (by kernel_rfl) (by kernel_rfl) (fun _ _ _ h => h) (Or.inl ⟨by rfl, ?hy9⟩) (by assumption) ?tk9
  case hy9 => (intro w hSw; (try dsimp only at hSw); go_simp; (try with_reducible rfl))
  try simp only [Act.put, List.setIfInBounds_toArray, List.set_cons_zero, List.set_cons_succ]
  refine wpAnyH_ready (rs := [3]) (by kernel_rfl) (by simp) ?_
  refine AllReadyH.cons (o := { dst := some 70, op := Go.Op.load 5 (Go.Operand.tmp 69), type := 5, pos := _, after := #[{ on := 2, ground := Go.Ground.data }], guard := none }) rfl (fun K' hK' => ?_) AllReadyH.nil
  go_simp
  clear hHeld
  refine hK'.out _ _ (by go_simp) (fun hHeld => ?_)
  clear hK' K'
  try simp only [Act.put, List.setIfInBounds_toArray, List.set_cons_zero, List.set_cons_succ]
  refine wpAnyH_take (i := 10) (oi := { dst := some 77, op := Go.Op.binOp Go.BinOp.or 5 (Go.Operand.tmp 70) (Go.Operand.tmp 76) 5, type := 5, pos := _, after := #[{ on := 3, ground := Go.Ground.data }, { on := 9, ground := Go.Ground.data }], guard := none }) (v := ?vv10) rfl (by kernel_rfl) (by kernel_rfl) (by kernel_rfl) (fun _ _ _ h => h) (Or.inl ⟨by rfl, ?hy10⟩) (by assumption) ?tk10
  case hy10 => (intro w hSw; (try dsimp only at hSw); go_simp; (try with_reducible rfl))
  try simp only [Act.put, List.setIfInBounds_toArray, List.set_cons_zero, List.set_cons_succ]
  refine wpAnyH_take (i := 11) (oi := { dst := some 78, op := Go.Op.nilCheck (Go.Operand.tmp 67), type := 0, pos := _, after := #[{ on := 0, ground := Go.Ground.data }, { on := 0, ground := Go.Ground.phase }, { on := 1, ground := Go.Ground.phase }, { on := 2, ground := Go.Ground.phase }, { on := 3, ground := Go.Ground.phase }, { on := 4, ground := Go.Ground.phase }, { on := 5, ground := Go.Ground.phase }, { on := 6, ground := Go.Ground.phase }, { on := 7, ground := Go.Ground.phase }, { on := 8, ground := Go.Ground.phase }, { on := 9, ground := Go.Ground.phase }, { on := 10, ground := Go.Ground.phase }], guard := none }) (v := ?vv11) rfl (by kernel_rfl) (by kernel_rfl) (by kernel_rfl) (fun _ _ _ h => h) (Or.inl ⟨by rfl, ?hy11⟩) (by assumption) ?tk11
  case hy11 => (intro w hSw; (try dsimp only at hSw); go_simp; (try with_reducible rfl))
  try simp only [Act.put, List.setIfInBounds_toArray, List.set_cons_zero, List.set_cons_succ]
  refine wpAnyH_take (i := 12) (oi := { dst := some 79, op := Go.Op.fieldAddr 183 (Go.Operand.tmp 78) 1, type := 0, pos := _, after := #[{ on := 11, ground := Go.Ground.data }, { on := 0, ground := Go.Ground.phase }, { on := 1, ground := Go.Ground.phase }, { on := 2, ground := Go.Ground.phase }, { on := 3, ground := Go.Ground.phase }, { on := 4, ground := Go.Ground.phase }, { on := 5, ground := Go.Ground.phase }, { on := 6, ground := Go.Ground.phase }, { on := 7, ground := Go.Ground.phase }, { on := 8, ground := Go.Ground.phase }, { on := 9, ground := Go.Ground.phase }, { on := 10, ground := Go.Ground.phase }], guard := none }) (v := ?vv12) rfl (by kernel_rfl) (by kernel_rfl) (by kernel_rfl) (fun _ _ _ h => h) (Or.inl ⟨by rfl, ?hy12⟩) (by assumption) ?tk12
  case hy12 => (intro w hSw; (try dsimp only at hSw); go_simp; (try with_reducible rfl))
  try simp only [Act.put, List.setIfInBounds_toArray, List.set_cons_zero, List.set_cons_succ]
  refine wpAnyH_ready (rs := [13]) (by kernel_rfl) (by simp) ?_
  refine AllReadyH.cons (o := { dst := none, op := Go.Op.store 5 (Go.Operand.tmp 79) (Go.Operand.tmp 77), type := 0, pos := _, after := #[{ on := 12, ground := Go.Ground.data }, { on := 10, ground := Go.Ground.data }, { on := 0, ground := Go.Ground.phase }, { on := 1, ground := Go.Ground.phase }, { on := 2, ground := Go.Ground.phase }, { on := 3, ground := Go.Ground.phase }, { on := 4, ground := Go.Ground.phase }, { on := 5, ground := Go.Ground.phase }, { on := 6, ground := Go.Ground.phase }, { on := 7, ground := Go.Ground.phase }, { on := 8, ground := Go.Ground.phase }, { on := 9, ground := Go.Ground.phase }, { on := 10, ground := Go.Ground.phase }], guard := none }) rfl (fun K' hK' => ?_) AllReadyH.nil
  go_simp
  clear hHeld
  refine hK'.out _ _ (by go_simp) (fun hHeld => ?_)
  clear hK' K'
  try simp only [Act.put, List.setIfInBounds_toArray, List.set_cons_zero, List.set_cons_succ]
  refine wpAnyH_done (by kernel_rfl) ?_ _
  go_wp2
  go_end0
  exact ⟨rfl, (((((((H.putSt ht _).putPrev ht _).putNext ht _).putHd hh hb _).putTl hh hb _).putFl hh _).putQn hh _).drew.drew.drew, ((((((((Mut.refl B 6596 6724 _).setCell (by omega) (by omega) _).setCell (by omega) (by omega) _).setCell (by omega) (by omega) _).setCell (by omega) (by omega) _).setCell (by omega) (by omega) _).setCell (by omega) (by omega) _).setCell (by omega) (by omega) _).drew.drew.drew⟩

set_option maxHeartbeats 4000000 in
theorem enqueue_at {w : World} {B : Nat} {s : Sched} {t h b u : Nat} (H : SchedAt w B s) (ht : t < 16) (hh : h < 4) (hb : b < 4) (eh : (s.tk t).home = h) (eb : (s.tk t).band = b) (hu : u < 16) (hut : u ≠ t) (etl : s.tl h b = u) (hq : 0 ≤ s.qn h ∧ s.qn h < 1000) :
    Calls Tryz.prog 176 #[.pointer (some ⟨B, 6596, none⟩), .int .i64 (t : Int)] w fun e w' => e = .returned (.tuple #[]) ∧ SchedAt w' B (enqAt s t h b u) ∧ Mut B 6596 6724 w w' := by
  obtain ⟨t0, t1, t2, t3, t4⟩ := H.task ht
  obtain ⟨qk, q8, q9⟩ := H.queue hh
  obtain ⟨qh, qt⟩ := qk b hb
  clear qk
  rw [eh] at t1
  rw [eb] at t2
  rw [etl] at qt
  have i0 : (0 : Int) ≤ t := by omega
  have i1 : (t : Int) < 16 := by omega
  have j0 : (0 : Int) ≤ h := by omega
  have j1 : (h : Int) < 4 := by omega
  have k0 : (0 : Int) ≤ b := by omega
  have k1 : (b : Int) < 4 := by omega
  have fz := H.frz
  have hwt : IntKind.i8.wrap (t : Int) = t := wrap_i8 (by omega)
  have l0 : (0 : Int) ≤ u := by omega
  have l1 : (u : Int) < 16 := by omega
  obtain ⟨u0, u1, u2, u3, u4⟩ := H.task hu
  have hub : ((u : Int) == -1) = false := by simp <;> omega
  clear u0 u1 u2 u3
  have n0 : ¬ (6596 + t * 5 = 6596 + t * 5 + 2) := by omega
  have n1 : ¬ (6596 + t * 5 + 2 = 6596 + t * 5) := by omega
  have n2 : ¬ (6596 + t * 5 = 6596 + t * 5 + 3) := by omega
  have n3 : ¬ (6596 + t * 5 + 3 = 6596 + t * 5) := by omega
  have n4 : ¬ (6596 + t * 5 = 6596 + t * 5 + 4) := by omega
  have n5 : ¬ (6596 + t * 5 + 4 = 6596 + t * 5) := by omega
  have n6 : ¬ (6596 + t * 5 = 6676 + h * 10 + b * 2 + 1) := by omega
  have n7 : ¬ (6676 + h * 10 + b * 2 + 1 = 6596 + t * 5) := by omega
  have n8 : ¬ (6596 + t * 5 = 6676 + h * 10 + b * 2) := by omega
  have n9 : ¬ (6676 + h * 10 + b * 2 = 6596 + t * 5) := by omega
  have n10 : ¬ (6596 + t * 5 = 6676 + h * 10 + 8) := by omega
  have n11 : ¬ (6676 + h * 10 + 8 = 6596 + t * 5) := by omega
  have n12 : ¬ (6596 + t * 5 = 6676 + h * 10 + 9) := by omega
  have n13 : ¬ (6676 + h * 10 + 9 = 6596 + t * 5) := by omega
  have n14 : ¬ (6596 + t * 5 = 6596 + u * 5 + 4) := by omega
  have n15 : ¬ (6596 + u * 5 + 4 = 6596 + t * 5) := by omega
  have n16 : ¬ (6596 + t * 5 + 3 = 6596 + t * 5 + 2) := by omega
  have n17 : ¬ (6596 + t * 5 + 2 = 6596 + t * 5 + 3) := by omega
  have n18 : ¬ (6596 + t * 5 + 3 = 6596 + t * 5 + 4) := by omega
  have n19 : ¬ (6596 + t * 5 + 4 = 6596 + t * 5 + 3) := by omega
  have n20 : ¬ (6596 + t * 5 + 3 = 6676 + h * 10 + b * 2 + 1) := by omega
  have n21 : ¬ (6676 + h * 10 + b * 2 + 1 = 6596 + t * 5 + 3) := by omega
  have n22 : ¬ (6596 + t * 5 + 3 = 6676 + h * 10 + b * 2) := by omega
  have n23 : ¬ (6676 + h * 10 + b * 2 = 6596 + t * 5 + 3) := by omega
  have n24 : ¬ (6596 + t * 5 + 3 = 6676 + h * 10 + 8) := by omega
  have n25 : ¬ (6676 + h * 10 + 8 = 6596 + t * 5 + 3) := by omega
  have n26 : ¬ (6596 + t * 5 + 3 = 6676 + h * 10 + 9) := by omega
  have n27 : ¬ (6676 + h * 10 + 9 = 6596 + t * 5 + 3) := by omega
  have n28 : ¬ (6596 + t * 5 + 3 = 6596 + u * 5 + 4) := by omega
  have n29 : ¬ (6596 + u * 5 + 4 = 6596 + t * 5 + 3) := by omega
  have n30 : ¬ (6596 + t * 5 + 4 = 6596 + t * 5 + 2) := by omega
  have n31 : ¬ (6596 + t * 5 + 2 = 6596 + t * 5 + 4) := by omega
  have n32 : ¬ (6596 + t * 5 + 4 = 6676 + h * 10 + b * 2 + 1) := by omega
  have n33 : ¬ (6676 + h * 10 + b * 2 + 1 = 6596 + t * 5 + 4) := by omega
  have n34 : ¬ (6596 + t * 5 + 4 = 6676 + h * 10 + b * 2) := by omega
  have n35 : ¬ (6676 + h * 10 + b * 2 = 6596 + t * 5 + 4) := by omega
  have n36 : ¬ (6596 + t * 5 + 4 = 6676 + h * 10 + 8) := by omega
  have n37 : ¬ (6676 + h * 10 + 8 = 6596 + t * 5 + 4) := by omega
  have n38 : ¬ (6596 + t * 5 + 4 = 6676 + h * 10 + 9) := by omega
  have n39 : ¬ (6676 + h * 10 + 9 = 6596 + t * 5 + 4) := by omega
  have n40 : ¬ (6596 + t * 5 + 4 = 6596 + u * 5 + 4) := by omega
  have n41 : ¬ (6596 + u * 5 + 4 = 6596 + t * 5 + 4) := by omega
  have n42 : ¬ (6596 + u * 5 + 4 = 6596 + t * 5 + 2) := by omega
  have n43 : ¬ (6596 + t * 5 + 2 = 6596 + u * 5 + 4) := by omega
  have n44 : ¬ (6596 + u * 5 + 4 = 6676 + h * 10 + b * 2 + 1) := by omega
  have n45 : ¬ (6676 + h * 10 + b * 2 + 1 = 6596 + u * 5 + 4) := by omega
  have n46 : ¬ (6596 + u * 5 + 4 = 6676 + h * 10 + b * 2) := by omega
  have n47 : ¬ (6676 + h * 10 + b * 2 = 6596 + u * 5 + 4) := by omega
  have n48 : ¬ (6596 + u * 5 + 4 = 6676 + h * 10 + 8) := by omega
  have n49 : ¬ (6676 + h * 10 + 8 = 6596 + u * 5 + 4) := by omega
  have n50 : ¬ (6596 + u * 5 + 4 = 6676 + h * 10 + 9) := by omega
  have n51 : ¬ (6676 + h * 10 + 9 = 6596 + u * 5 + 4) := by omega
  have n52 : ¬ (6676 + h * 10 + b * 2 + 1 = 6596 + t * 5 + 2) := by omega
  have n53 : ¬ (6596 + t * 5 + 2 = 6676 + h * 10 + b * 2 + 1) := by omega
  have n54 : ¬ (6676 + h * 10 + b * 2 + 1 = 6676 + h * 10 + b * 2) := by omega
  have n55 : ¬ (6676 + h * 10 + b * 2 = 6676 + h * 10 + b * 2 + 1) := by omega
  have n56 : ¬ (6676 + h * 10 + b * 2 + 1 = 6676 + h * 10 + 8) := by omega
  have n57 : ¬ (6676 + h * 10 + 8 = 6676 + h * 10 + b * 2 + 1) := by omega
  have n58 : ¬ (6676 + h * 10 + b * 2 + 1 = 6676 + h * 10 + 9) := by omega
  have n59 : ¬ (6676 + h * 10 + 9 = 6676 + h * 10 + b * 2 + 1) := by omega
  have n60 : ¬ (6676 + h * 10 + 8 = 6596 + t * 5 + 2) := by omega
  have n61 : ¬ (6596 + t * 5 + 2 = 6676 + h * 10 + 8) := by omega
  have n62 : ¬ (6676 + h * 10 + 8 = 6676 + h * 10 + b * 2) := by omega
  have n63 : ¬ (6676 + h * 10 + b * 2 = 6676 + h * 10 + 8) := by omega
  have n64 : ¬ (6676 + h * 10 + 8 = 6676 + h * 10 + 9) := by omega
  have n65 : ¬ (6676 + h * 10 + 9 = 6676 + h * 10 + 8) := by omega
  have n66 : ¬ (6676 + h * 10 + 9 = 6596 + t * 5 + 2) := by omega
  have n67 : ¬ (6596 + t * 5 + 2 = 6676 + h * 10 + 9) := by omega
  have n68 : ¬ (6676 + h * 10 + 9 = 6676 + h * 10 + b * 2) := by omega
  have n69 : ¬ (6676 + h * 10 + b * 2 = 6676 + h * 10 + 9) := by omega
  go_enter Tryz.func176, Tryz.ntmps176
  go_wp2
  go_region_held3 (fun w' => w'.cell? ⟨B, 6596 + t * 5 + 1, none⟩ = some (.int .i64 (h : Int))) (exact t1) (fail)
  go_wp2
  go_region_held3 (fun w' => w'.cell? ⟨B, 6596 + t * 5 + 2, none⟩ = some (.int .i8 (b : Int))) (exact t2) (fail)
  go_wp2
  go_region_held3 (fun w' => w'.cell? ⟨B, 6676 + h * 10 + b * 2 + 1, none⟩ = some (.int .i8 (u : Int))) (go_simp) (fail)
  go_wp2
  refine wp_region_held_drew (S := (fun w' => w'.cell? ⟨B, 6596 + t * 5 + 2, none⟩ = some (.int .i8 (b : Int)))) (by kernel_rfl) (by go_simp) (fun hHeld => ?_)
  refine wpAnyH_take (i := 0) (oi := { dst := some 67, op := Go.Op.move (Go.Operand.tmp 5), type := 254, pos := _, after := #[], guard := none }) (v := ?vv13) rfl (by kernel_rfl) (by kernel_rfl) (by kernel_rfl) (fun _ _ _ h => h) (Or.inl ⟨by rfl, ?hy13⟩) (by assumption) ?tk13
  case hy13 => (intro w hSw; (try dsimp only at hSw); go_simp; (try with_reducible rfl))
  try simp only [Act.put, List.setIfInBounds_toArray, List.set_cons_zero, List.set_cons_succ]
  refine wpAnyH_take (i := 1) (oi := { dst := some 68, op := Go.Op.nilCheck (Go.Operand.tmp 67), type := 0, pos := _, after := #[{ on := 0, ground := Go.Ground.data }], guard := none }) (v := ?vv14) rfl (by kernel_rfl) (by kernel_rfl) (by kernel_rfl) (fun _ _ _ h => h) (Or.inl ⟨by rfl, ?hy14⟩) (by assumption) ?tk14
  case hy14 => (intro w hSw; (try dsimp only at hSw); go_simp; (try with_reducible rfl))
  try simp only [Act.put, List.setIfInBounds_toArray, List.set_cons_zero, List.set_cons_succ]
  refine wpAnyH_take (i := 2) (oi := { dst := some 69, op := Go.Op.fieldAddr 183 (Go.Operand.tmp 68) 1, type := 0, pos := _, after := #[{ on := 1, ground := Go.Ground.data }], guard := none }) (v := ?vv15) rfl (by kernel_rfl) (by kernel_rfl) (by kernel_rfl) (fun _ _ _ h => h) (Or.inl ⟨by rfl, ?hy15⟩) (by assumption) ?tk15
  case hy15 => (intro w hSw; (try dsimp only at hSw); go_simp; (try with_reducible rfl))
  try simp only [Act.put, List.setIfInBounds_toArray, List.set_cons_zero, List.set_cons_succ]
  refine wpAnyH_take (i := 4) (oi := { dst := some 71, op := Go.Op.move (Go.Operand.tmp 4), type := 220, pos := _, after := #[], guard := none }) (v := ?vv16) rfl (by kernel_rfl) (by kernel_rfl) (by kernel_rfl) (fun _ _ _ h => h) (Or.inl ⟨by rfl, ?hy16⟩) (by assumption) ?tk16
  case hy16 => (intro w hSw; (try dsimp only at hSw); go_simp; (try with_reducible rfl))
  try simp only [Act.put, List.setIfInBounds_toArray, List.set_cons_zero, List.set_cons_succ]
  refine wpAnyH_take (i := 5) (oi := { dst := some 72, op := Go.Op.nilCheck (Go.Operand.tmp 71), type := 0, pos := _, after := #[{ on := 4, ground := Go.Ground.data }], guard := none }) (v := ?vv17) rfl (by kernel_rfl) (by kernel_rfl) (by kernel_rfl) (fun _ _ _ h => h) (Or.inl ⟨by rfl, ?hy17⟩) (by assumption) ?tk17
  case hy17 => (intro w hSw; (try dsimp only at hSw); go_simp; (try with_reducible rfl))
  try simp only [Act.put, List.setIfInBounds_toArray, List.set_cons_zero, List.set_cons_succ]
  refine wpAnyH_take (i := 6) (oi := { dst := some 73, op := Go.Op.fieldAddr 177 (Go.Operand.tmp 72) 2, type := 0, pos := _, after := #[{ on := 5, ground := Go.Ground.data }], guard := none }) (v := ?vv18) rfl (by kernel_rfl) (by kernel_rfl) (by kernel_rfl) (fun _ _ _ h => h) (Or.inl ⟨by rfl, ?hy18⟩) (by assumption) ?tk18
  case hy18 => (intro w hSw; (try dsimp only at hSw); go_simp; (try with_reducible rfl))
  try simp only [Act.put, List.setIfInBounds_toArray, List.set_cons_zero, List.set_cons_succ]
  refine wpAnyH_take (i := 7) (oi := { dst := some 74, op := Go.Op.load 157 (Go.Operand.tmp 73), type := 157, pos := _, after := #[{ on := 6, ground := Go.Ground.data }], guard := none }) (v := ?vv19) rfl (by kernel_rfl) (by kernel_rfl) (by kernel_rfl) (fun _ _ _ h => h) (Or.inl ⟨by rfl, ?hy19⟩) (by assumption) ?tk19
  case hy19 => (intro w hSw; (try dsimp only at hSw); go_simp; (try with_reducible rfl))
  try simp only [Act.put, List.setIfInBounds_toArray, List.set_cons_zero, List.set_cons_succ]
  refine wpAnyH_take (i := 8) (oi := { dst := some 75, op := Go.Op.convert 157 275 (Go.Operand.tmp 74), type := 275, pos := _, after := #[{ on := 7, ground := Go.Ground.data }], guard := none }) (v := ?vv20) rfl (by kernel_rfl) (by kernel_rfl) (by kernel_rfl) (fun _ _ _ h => h) (Or.inl ⟨by rfl, ?hy20⟩) (by assumption) ?tk20
  case hy20 => (intro w hSw; (try dsimp only at hSw); go_simp; (try with_reducible rfl))
  try simp only [Act.put, List.setIfInBounds_toArray, List.set_cons_zero, List.set_cons_succ]
  refine wpAnyH_take (i := 9) (oi := { dst := some 76, op := Go.Op.binOp Go.BinOp.shl 5 (Go.Operand.const (Go.Value.int Go.IntKind.u8 1)) (Go.Operand.tmp 75) 275, type := 5, pos := _, after := #[{ on := 8, ground := Go.Ground.data }], guard := none }) (v := ?vv21) rfl (by kernel_rfl) (by kernel_rfl) (by kernel_rfl) (fun _ _ _ h => h) (Or.inl ⟨by rfl, ?hy21⟩) (by assumption) ?tk21
  case hy21 => (intro w hSw; (try dsimp only at hSw); go_simp; (try with_reducible rfl))
  try simp only [Act.put, List.setIfInBounds_toArray, List.set_cons_zero, List.set_cons_succ]
  refine wpAnyH_ready (rs := [3]) (by kernel_rfl) (by simp) ?_
  refine AllReadyH.cons (o := { dst := some 70, op := Go.Op.load 5 (Go.Operand.tmp 69), type := 5, pos := _, after := #[{ on := 2, ground := Go.Ground.data }], guard := none }) rfl (fun K' hK' => ?_) AllReadyH.nil
  go_simp
  clear hHeld
  refine hK'.out _ _ (by go_simp) (fun hHeld => ?_)
  clear hK' K'
  try simp only [Act.put, List.setIfInBounds_toArray, List.set_cons_zero, List.set_cons_succ]
  refine wpAnyH_take (i := 10) (oi := { dst := some 77, op := Go.Op.binOp Go.BinOp.or 5 (Go.Operand.tmp 70) (Go.Operand.tmp 76) 5, type := 5, pos := _, after := #[{ on := 3, ground := Go.Ground.data }, { on := 9, ground := Go.Ground.data }], guard := none }) (v := ?vv22) rfl (by kernel_rfl) (by kernel_rfl) (by kernel_rfl) (fun _ _ _ h => h) (Or.inl ⟨by rfl, ?hy22⟩) (by assumption) ?tk22
  case hy22 => (intro w hSw; (try dsimp only at hSw); go_simp; (try with_reducible rfl))
  try simp only [Act.put, List.setIfInBounds_toArray, List.set_cons_zero, List.set_cons_succ]
  refine wpAnyH_take (i := 11) (oi := { dst := some 78, op := Go.Op.nilCheck (Go.Operand.tmp 67), type := 0, pos := _, after := #[{ on := 0, ground := Go.Ground.data }, { on := 0, ground := Go.Ground.phase }, { on := 1, ground := Go.Ground.phase }, { on := 2, ground := Go.Ground.phase }, { on := 3, ground := Go.Ground.phase }, { on := 4, ground := Go.Ground.phase }, { on := 5, ground := Go.Ground.phase }, { on := 6, ground := Go.Ground.phase }, { on := 7, ground := Go.Ground.phase }, { on := 8, ground := Go.Ground.phase }, { on := 9, ground := Go.Ground.phase }, { on := 10, ground := Go.Ground.phase }], guard := none }) (v := ?vv23) rfl (by kernel_rfl) (by kernel_rfl) (by kernel_rfl) (fun _ _ _ h => h) (Or.inl ⟨by rfl, ?hy23⟩) (by assumption) ?tk23
  case hy23 => (intro w hSw; (try dsimp only at hSw); go_simp; (try with_reducible rfl))
  try simp only [Act.put, List.setIfInBounds_toArray, List.set_cons_zero, List.set_cons_succ]
  refine wpAnyH_take (i := 12) (oi := { dst := some 79, op := Go.Op.fieldAddr 183 (Go.Operand.tmp 78) 1, type := 0, pos := _, after := #[{ on := 11, ground := Go.Ground.data }, { on := 0, ground := Go.Ground.phase }, { on := 1, ground := Go.Ground.phase }, { on := 2, ground := Go.Ground.phase }, { on := 3, ground := Go.Ground.phase }, { on := 4, ground := Go.Ground.phase }, { on := 5, ground := Go.Ground.phase }, { on := 6, ground := Go.Ground.phase }, { on := 7, ground := Go.Ground.phase }, { on := 8, ground := Go.Ground.phase }, { on := 9, ground := Go.Ground.phase }, { on := 10, ground := Go.Ground.phase }], guard := none }) (v := ?vv24) rfl (by kernel_rfl) (by kernel_rfl) (by kernel_rfl) (fun _ _ _ h => h) (Or.inl ⟨by rfl, ?hy24⟩) (by assumption) ?tk24
  case hy24 => (intro w hSw; (try dsimp only at hSw); go_simp; (try with_reducible rfl))
  try simp only [Act.put, List.setIfInBounds_toArray, List.set_cons_zero, List.set_cons_succ]
  refine wpAnyH_ready (rs := [13]) (by kernel_rfl) (by simp) ?_
  refine AllReadyH.cons (o := { dst := none, op := Go.Op.store 5 (Go.Operand.tmp 79) (Go.Operand.tmp 77), type := 0, pos := _, after := #[{ on := 12, ground := Go.Ground.data }, { on := 10, ground := Go.Ground.data }, { on := 0, ground := Go.Ground.phase }, { on := 1, ground := Go.Ground.phase }, { on := 2, ground := Go.Ground.phase }, { on := 3, ground := Go.Ground.phase }, { on := 4, ground := Go.Ground.phase }, { on := 5, ground := Go.Ground.phase }, { on := 6, ground := Go.Ground.phase }, { on := 7, ground := Go.Ground.phase }, { on := 8, ground := Go.Ground.phase }, { on := 9, ground := Go.Ground.phase }, { on := 10, ground := Go.Ground.phase }], guard := none }) rfl (fun K' hK' => ?_) AllReadyH.nil
  go_simp
  clear hHeld
  refine hK'.out _ _ (by go_simp) (fun hHeld => ?_)
  clear hK' K'
  try simp only [Act.put, List.setIfInBounds_toArray, List.set_cons_zero, List.set_cons_succ]
  refine wpAnyH_done (by kernel_rfl) ?_ _
  go_wp2
  go_end0
  exact ⟨rfl, (((((((H.putSt ht _).putPrev ht _).putNext ht _).putNext hu _).putTl hh hb _).putFl hh _).putQn hh _).drew.drew.drew.drew, ((((((((Mut.refl B 6596 6724 _).setCell (by omega) (by omega) _).setCell (by omega) (by omega) _).setCell (by omega) (by omega) _).setCell (by omega) (by omega) _).setCell (by omega) (by omega) _).setCell (by omega) (by omega) _).setCell (by omega) (by omega) _).drew.drew.drew.drew⟩

end Go.Proofs.Qxb6500877aGreatDoor
