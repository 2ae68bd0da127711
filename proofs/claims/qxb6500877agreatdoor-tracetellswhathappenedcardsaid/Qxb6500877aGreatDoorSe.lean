import Derived.Test.Qxb6500877aGreatDoorSd
set_option linter.unusedVariables false
set_option linter.unusedSimpArgs false
namespace Go.Proofs.Qxb6500877aGreatDoor
open Go.RowKit

def attachF (s : Sched) (t h b : Nat) : Sched := (((((s.pSt t 1).pHome t h).pBand t b).pPrev t (-1)).pNext t (-1)).setLd h (s.ld h + 1)

set_option maxHeartbeats 4000000 in
theorem attach_any {w : World} {B : Nat} {s : Sched} {t h b : Nat} (H : SchedAt w B s) (ht : t < 16) (hh : h < 4) (hb : b < 4) (hl : 0 ≤ s.ld h ∧ s.ld h < 1000) :
    Calls Tryz.prog 212 #[.pointer (some ⟨B, 6596, none⟩), .int .i64 (t : Int), .int .i64 (h : Int), .int .i64 (b : Int)] w fun e w' => e = .returned (.tuple #[]) ∧ SchedAt w' B (attachF s t h b) ∧ Mut B 6596 6724 w w' := by
  obtain ⟨t0, t1, t2, t3, t4⟩ := H.task ht
  obtain ⟨_, c1⟩ := H.core hh
  have i0 : (0 : Int) ≤ t := by omega
  have i1 : (t : Int) < 16 := by omega
  have j0 : (0 : Int) ≤ h := by omega
  have j1 : (h : Int) < 4 := by omega
  have fz := H.frz
  have hwb : IntKind.i8.wrap (b : Int) = b := wrap_i8 (by omega)
  have hwl : IntKind.i64.wrap (s.ld h + 1) = s.ld h + 1 := wrap_i64 (by omega)
  have n0 : ¬ (6596 + t * 5 = 6720 + h) := by omega
  have n1 : ¬ (6720 + h = 6596 + t * 5) := by omega
  have n2 : ¬ (6596 + t * 5 + 1 = 6720 + h) := by omega
  have n3 : ¬ (6720 + h = 6596 + t * 5 + 1) := by omega
  have n4 : ¬ (6596 + t * 5 + 2 = 6720 + h) := by omega
  have n5 : ¬ (6720 + h = 6596 + t * 5 + 2) := by omega
  have n6 : ¬ (6596 + t * 5 + 3 = 6720 + h) := by omega
  have n7 : ¬ (6720 + h = 6596 + t * 5 + 3) := by omega
  have n8 : ¬ (6596 + t * 5 + 4 = 6720 + h) := by omega
  have n9 : ¬ (6720 + h = 6596 + t * 5 + 4) := by omega
  go_enter Tryz.func212, Tryz.ntmps212
  go_wp2
  refine wp_region_held_drew (S := (fun _ => True)) (by kernel_rfl) trivial (fun hHeld => ?_)
  refine wpAnyH_take (i := 0) (oi := { dst := some 17, op := Go.Op.move (Go.Operand.tmp 0), type := 253, pos := _, after := #[], guard := none }) (v := ?vv1) rfl (by kernel_rfl) (by kernel_rfl) (by kernel_rfl) (fun _ _ _ h => h) (Or.inl ⟨by rfl, ?hy1⟩) (by assumption) ?tk1
  case hy1 => (intro w hSw; (try dsimp only at hSw); go_simp; (try with_reducible rfl))
  try simp only [Act.put, List.setIfInBounds_toArray, List.set_cons_zero, List.set_cons_succ]
  refine wpAnyH_take (i := 1) (oi := { dst := some 18, op := Go.Op.move (Go.Operand.tmp 2), type := 34, pos := _, after := #[], guard := none }) (v := ?vv2) rfl (by kernel_rfl) (by kernel_rfl) (by kernel_rfl) (fun _ _ _ h => h) (Or.inl ⟨by rfl, ?hy2⟩) (by assumption) ?tk2
  case hy2 => (intro w hSw; (try dsimp only at hSw); go_simp; (try with_reducible rfl))
  try simp only [Act.put, List.setIfInBounds_toArray, List.set_cons_zero, List.set_cons_succ]
  refine wpAnyH_take (i := 2) (oi := { dst := some 19, op := Go.Op.nilCheck (Go.Operand.tmp 17), type := 0, pos := _, after := #[{ on := 0, ground := Go.Ground.data }], guard := none }) (v := ?vv3) rfl (by kernel_rfl) (by kernel_rfl) (by kernel_rfl) (fun _ _ _ h => h) (Or.inl ⟨by rfl, ?hy3⟩) (by assumption) ?tk3
  case hy3 => (intro w hSw; (try dsimp only at hSw); go_simp; (try with_reducible rfl))
  try simp only [Act.put, List.setIfInBounds_toArray, List.set_cons_zero, List.set_cons_succ]
  refine wpAnyH_take (i := 3) (oi := { dst := some 20, op := Go.Op.fieldAddr 188 (Go.Operand.tmp 19) 3, type := 0, pos := _, after := #[{ on := 2, ground := Go.Ground.data }], guard := none }) (v := ?vv4) rfl (by kernel_rfl) (by kernel_rfl) (by kernel_rfl) (fun _ _ _ h => h) (Or.inl ⟨by rfl, ?hy4⟩) (by assumption) ?tk4
  case hy4 => (intro w hSw; (try dsimp only at hSw); go_simp; (try with_reducible rfl))
  try simp only [Act.put, List.setIfInBounds_toArray, List.set_cons_zero, List.set_cons_succ]
  refine wpAnyH_take (i := 4) (oi := { dst := some 21, op := Go.Op.indexAddr 186 (Go.Operand.tmp 20) (Go.Operand.tmp 18), type := 0, pos := _, after := #[{ on := 3, ground := Go.Ground.data }, { on := 1, ground := Go.Ground.data }], guard := none }) (v := ?vv5) rfl (by kernel_rfl) (by kernel_rfl) (by kernel_rfl) (fun _ _ _ h => h) (Or.inl ⟨by rfl, ?hy5⟩) (by assumption) ?tk5
  case hy5 => (intro w hSw; (try dsimp only at hSw); go_simp; (try with_reducible rfl))
  try simp only [Act.put, List.setIfInBounds_toArray, List.set_cons_zero, List.set_cons_succ]
  refine wpAnyH_take (i := 7) (oi := { dst := some 24, op := Go.Op.nilCheck (Go.Operand.tmp 17), type := 0, pos := _, after := #[{ on := 0, ground := Go.Ground.data }], guard := none }) (v := ?vv6) rfl (by kernel_rfl) (by kernel_rfl) (by kernel_rfl) (fun _ _ _ h => h) (Or.inl ⟨by rfl, ?hy6⟩) (by assumption) ?tk6
  case hy6 => (intro w hSw; (try dsimp only at hSw); go_simp; (try with_reducible rfl))
  try simp only [Act.put, List.setIfInBounds_toArray, List.set_cons_zero, List.set_cons_succ]
  refine wpAnyH_take (i := 8) (oi := { dst := some 25, op := Go.Op.fieldAddr 188 (Go.Operand.tmp 24) 3, type := 0, pos := _, after := #[{ on := 7, ground := Go.Ground.data }], guard := none }) (v := ?vv7) rfl (by kernel_rfl) (by kernel_rfl) (by kernel_rfl) (fun _ _ _ h => h) (Or.inl ⟨by rfl, ?hy7⟩) (by assumption) ?tk7
  case hy7 => (intro w hSw; (try dsimp only at hSw); go_simp; (try with_reducible rfl))
  try simp only [Act.put, List.setIfInBounds_toArray, List.set_cons_zero, List.set_cons_succ]
  refine wpAnyH_ready (rs := [5]) (by kernel_rfl) (by simp) ?_
  refine AllReadyH.cons (o := { dst := some 22, op := Go.Op.load 3 (Go.Operand.tmp 21), type := 3, pos := _, after := #[{ on := 4, ground := Go.Ground.data }], guard := none }) rfl (fun K' hK' => ?_) AllReadyH.nil
  go_simp
  clear hHeld
  refine hK'.out _ _ trivial (fun hHeld => ?_)
  clear hK' K'
  try simp only [Act.put, List.setIfInBounds_toArray, List.set_cons_zero, List.set_cons_succ]
  refine wpAnyH_take (i := 6) (oi := { dst := some 23, op := Go.Op.binOp Go.BinOp.add 3 (Go.Operand.tmp 22) (Go.Operand.const (Go.Value.int Go.IntKind.i64 1)) 3, type := 3, pos := _, after := #[{ on := 5, ground := Go.Ground.data }], guard := none }) (v := ?vv8) rfl (by kernel_rfl) (by kernel_rfl) (by kernel_rfl) (fun _ _ _ h => h) (Or.inl ⟨by rfl, ?hy8⟩) (by assumption) ?tk8
  case hy8 => (intro w hSw; (try dsimp only at hSw); go_simp; (try with_reducible rfl))
  try simp only [Act.put, List.setIfInBounds_toArray, List.set_cons_zero, List.set_cons_succ]
  refine wpAnyH_take (i := 9) (oi := { dst := some 26, op := Go.Op.indexAddr 186 (Go.Operand.tmp 25) (Go.Operand.tmp 18), type := 0, pos := _, after := #[{ on := 8, ground := Go.Ground.data }, { on := 1, ground := Go.Ground.data }, { on := 0, ground := Go.Ground.phase }, { on := 1, ground := Go.Ground.phase }, { on := 2, ground := Go.Ground.phase }, { on := 3, ground := Go.Ground.phase }, { on := 4, ground := Go.Ground.phase }, { on := 5, ground := Go.Ground.phase }, { on := 6, ground := Go.Ground.phase }], guard := none }) (v := ?vv9) rfl (by kernel_rfl) (by kernel_rfl) (by kernel_rfl) (fun _ _ _ h => h) (Or.inl ⟨by rfl, ?hy9⟩) (by assumption) ?tk9
  case hy9 => (intro w hSw; (try dsimp only at hSw); go_simp; (try with_reducible rfl))
  try simp only [Act.put, List.setIfInBounds_toArray, List.set_cons_zero, List.set_cons_succ]
  refine wpAnyH_ready (rs := [10]) (by kernel_rfl) (by simp) ?_
  refine AllReadyH.cons (o := { dst := none, op := Go.Op.store 3 (Go.Operand.tmp 26) (Go.Operand.tmp 23), type := 0, pos := _, after := #[{ on := 9, ground := Go.Ground.data }, { on := 6, ground := Go.Ground.data }, { on := 0, ground := Go.Ground.phase }, { on := 1, ground := Go.Ground.phase }, { on := 2, ground := Go.Ground.phase }, { on := 3, ground := Go.Ground.phase }, { on := 4, ground := Go.Ground.phase }, { on := 5, ground := Go.Ground.phase }, { on := 6, ground := Go.Ground.phase }], guard := none }) rfl (fun K' hK' => ?_) AllReadyH.nil
  go_simp
  clear hHeld
  refine hK'.out _ _ trivial (fun hHeld => ?_)
  clear hK' K'
  try simp only [Act.put, List.setIfInBounds_toArray, List.set_cons_zero, List.set_cons_succ]
  refine wpAnyH_done (by kernel_rfl) ?_ _
  go_wp2
  go_end0
  exact ⟨rfl, ((((((H.putSt ht _).putHome ht _).putBand ht _).putPrev ht _).putNext ht _).putLd hh _).drew, (((((((Mut.refl B 6596 6724 _).setCell (by omega) (by omega) _).setCell (by omega) (by omega) _).setCell (by omega) (by omega) _).setCell (by omega) (by omega) _).setCell (by omega) (by omega) _).setCell (by omega) (by omega) _).drew⟩

/-- The vacant row, as the program lays it. -/
structure Vac (w : World) : Prop where
  v0 : w.cell? ⟨0, 0, none⟩ = some (.int .u8 0)
  v1 : w.cell? ⟨0, 1, none⟩ = some (.int .i64 (-1))
  v2 : w.cell? ⟨0, 2, none⟩ = some (.int .i8 0)
  v3 : w.cell? ⟨0, 3, none⟩ = some (.int .i8 (-1))
  v4 : w.cell? ⟨0, 4, none⟩ = some (.int .i8 (-1))
theorem Vac.mut {w w' : World} {b lo hi : Nat} (h : Vac w) (m : Mut b lo hi w w') (hb : 0 < b) : Vac w' :=
  ⟨m.far (by omega) h.v0, m.far (by omega) h.v1, m.far (by omega) h.v2, m.far (by omega) h.v3, m.far (by omega) h.v4⟩

def vacate (s : Sched) (t : Nat) : Sched := ((((s.pSt t 0).pHome t (-1)).pBand t 0).pPrev t (-1)).pNext t (-1)
def detachF (s : Sched) (t h b : Nat) : Sched := vacate ((standDown s t h b).setLd h ((standDown s t h b).ld h - 1)) t

set_option maxHeartbeats 4000000 in
theorem detach_any {w : World} {B : Nat} {s : Sched} {t h b : Nat} (H : SchedAt w B s) (r : Row s t h b) (p : (s.tk t).st = 2 → DeqPre s t h b) (r1 : Row (standDown s t h b) t h b) (hl : 0 < (standDown s t h b).ld h ∧ (standDown s t h b).ld h < 1000) (V : Vac w) (hB : 0 < B) :
    Calls Tryz.prog 188 #[.pointer (some ⟨B, 6596, none⟩), .int .i64 (t : Int)] w fun e w' => e = .returned (.tuple #[]) ∧ SchedAt w' B (detachF s t h b) ∧ Mut B 6596 6724 w w' := by
  have ht := r.ht
  have hh := r.hh
  have i0 : (0 : Int) ≤ t := by omega
  have i1 : (t : Int) < 16 := by omega
  have j0 : (0 : Int) ≤ h := by omega
  have j1 : (h : Int) < 4 := by omega
  go_enter Tryz.func188, Tryz.ntmps188
  go_wp2_with fail
  refine (standDown_any H r p).mono ?_
  rintro e w1 ⟨rfl, H1, M1⟩
  obtain ⟨v0, v1, v2, v3, v4⟩ := V.mut M1 hB
  obtain ⟨t0, t1, t2, t3, t4⟩ := H1.task ht
  obtain ⟨_, c1⟩ := H1.core hh
  have fz := H1.frz
  rw [r1.eh] at t1
  have hwl : IntKind.i64.wrap ((standDown s t h b).ld h - 1) = (standDown s t h b).ld h - 1 := wrap_i64 (by omega)
  have hB0 : ¬ (B = 0) := by omega
  have hB1 : ¬ (0 = B) := by omega
  have n0 : ¬ (6720 + h = 6596 + t * 5) := by omega
  have n1 : ¬ (6596 + t * 5 = 6720 + h) := by omega
  have n2 : ¬ (6720 + h = 6596 + t * 5 + 1) := by omega
  have n3 : ¬ (6596 + t * 5 + 1 = 6720 + h) := by omega
  have n4 : ¬ (6720 + h = 6596 + t * 5 + 2) := by omega
  have n5 : ¬ (6596 + t * 5 + 2 = 6720 + h) := by omega
  have n6 : ¬ (6720 + h = 6596 + t * 5 + 3) := by omega
  have n7 : ¬ (6596 + t * 5 + 3 = 6720 + h) := by omega
  have n8 : ¬ (6720 + h = 6596 + t * 5 + 4) := by omega
  have n9 : ¬ (6596 + t * 5 + 4 = 6720 + h) := by omega
  have n10 : ¬ (6596 + t * 5 = 6596 + t * 5 + 1) := by omega
  have n11 : ¬ (6596 + t * 5 + 1 = 6596 + t * 5) := by omega
  have n12 : ¬ (6596 + t * 5 = 6596 + t * 5 + 2) := by omega
  have n13 : ¬ (6596 + t * 5 + 2 = 6596 + t * 5) := by omega
  have n14 : ¬ (6596 + t * 5 = 6596 + t * 5 + 3) := by omega
  have n15 : ¬ (6596 + t * 5 + 3 = 6596 + t * 5) := by omega
  have n16 : ¬ (6596 + t * 5 = 6596 + t * 5 + 4) := by omega
  have n17 : ¬ (6596 + t * 5 + 4 = 6596 + t * 5) := by omega
  have n18 : ¬ (6596 + t * 5 + 1 = 6596 + t * 5 + 2) := by omega
  have n19 : ¬ (6596 + t * 5 + 2 = 6596 + t * 5 + 1) := by omega
  have n20 : ¬ (6596 + t * 5 + 1 = 6596 + t * 5 + 3) := by omega
  have n21 : ¬ (6596 + t * 5 + 3 = 6596 + t * 5 + 1) := by omega
  have n22 : ¬ (6596 + t * 5 + 1 = 6596 + t * 5 + 4) := by omega
  have n23 : ¬ (6596 + t * 5 + 4 = 6596 + t * 5 + 1) := by omega
  have n24 : ¬ (6596 + t * 5 + 2 = 6596 + t * 5 + 3) := by omega
  have n25 : ¬ (6596 + t * 5 + 3 = 6596 + t * 5 + 2) := by omega
  have n26 : ¬ (6596 + t * 5 + 2 = 6596 + t * 5 + 4) := by omega
  have n27 : ¬ (6596 + t * 5 + 4 = 6596 + t * 5 + 2) := by omega
  have n28 : ¬ (6596 + t * 5 + 3 = 6596 + t * 5 + 4) := by omega
  have n29 : ¬ (6596 + t * 5 + 4 = 6596 + t * 5 + 3) := by omega
  go_wp2_with fail
  refine wp_region_held_drew (S := (fun w' => w'.cell? ⟨B, 6596 + t * 5 + 1, none⟩ = some (.int .i64 (h : Int)))) (by kernel_rfl) t1 (fun hHeld => ?_)
  refine wpAnyH_take (i := 0) (oi := { dst := some 7, op := Go.Op.move (Go.Operand.tmp 0), type := 253, pos := _, after := #[], guard := none }) (v := ?vv10) rfl (by kernel_rfl) (by kernel_rfl) (by kernel_rfl) (fun _ _ _ h => h) (Or.inl ⟨by rfl, ?hy10⟩) (by assumption) ?tk10
  case hy10 => (intro w hSw; (try dsimp only at hSw); go_simp; (try with_reducible rfl))
  try simp only [Act.put, List.setIfInBounds_toArray, List.set_cons_zero, List.set_cons_succ]
  refine wpAnyH_take (i := 1) (oi := { dst := some 8, op := Go.Op.move (Go.Operand.tmp 0), type := 253, pos := _, after := #[], guard := none }) (v := ?vv11) rfl (by kernel_rfl) (by kernel_rfl) (by kernel_rfl) (fun _ _ _ h => h) (Or.inl ⟨by rfl, ?hy11⟩) (by assumption) ?tk11
  case hy11 => (intro w hSw; (try dsimp only at hSw); go_simp; (try with_reducible rfl))
  try simp only [Act.put, List.setIfInBounds_toArray, List.set_cons_zero, List.set_cons_succ]
  refine wpAnyH_take (i := 2) (oi := { dst := some 9, op := Go.Op.move (Go.Operand.tmp 1), type := 35, pos := _, after := #[], guard := none }) (v := ?vv12) rfl (by kernel_rfl) (by kernel_rfl) (by kernel_rfl) (fun _ _ _ h => h) (Or.inl ⟨by rfl, ?hy12⟩) (by assumption) ?tk12
  case hy12 => (intro w hSw; (try dsimp only at hSw); go_simp; (try with_reducible rfl))
  try simp only [Act.put, List.setIfInBounds_toArray, List.set_cons_zero, List.set_cons_succ]
  refine wpAnyH_take (i := 3) (oi := { dst := some 10, op := Go.Op.nilCheck (Go.Operand.tmp 8), type := 0, pos := _, after := #[{ on := 1, ground := Go.Ground.data }], guard := none }) (v := ?vv13) rfl (by kernel_rfl) (by kernel_rfl) (by kernel_rfl) (fun _ _ _ h => h) (Or.inl ⟨by rfl, ?hy13⟩) (by assumption) ?tk13
  case hy13 => (intro w hSw; (try dsimp only at hSw); go_simp; (try with_reducible rfl))
  try simp only [Act.put, List.setIfInBounds_toArray, List.set_cons_zero, List.set_cons_succ]
  refine wpAnyH_take (i := 4) (oi := { dst := some 11, op := Go.Op.fieldAddr 188 (Go.Operand.tmp 10) 0, type := 0, pos := _, after := #[{ on := 3, ground := Go.Ground.data }], guard := none }) (v := ?vv14) rfl (by kernel_rfl) (by kernel_rfl) (by kernel_rfl) (fun _ _ _ h => h) (Or.inl ⟨by rfl, ?hy14⟩) (by assumption) ?tk14
  case hy14 => (intro w hSw; (try dsimp only at hSw); go_simp; (try with_reducible rfl))
  try simp only [Act.put, List.setIfInBounds_toArray, List.set_cons_zero, List.set_cons_succ]
  refine wpAnyH_take (i := 5) (oi := { dst := some 12, op := Go.Op.indexAddr 178 (Go.Operand.tmp 11) (Go.Operand.tmp 9), type := 0, pos := _, after := #[{ on := 4, ground := Go.Ground.data }, { on := 2, ground := Go.Ground.data }], guard := none }) (v := ?vv15) rfl (by kernel_rfl) (by kernel_rfl) (by kernel_rfl) (fun _ _ _ h => h) (Or.inl ⟨by rfl, ?hy15⟩) (by assumption) ?tk15
  case hy15 => (intro w hSw; (try dsimp only at hSw); go_simp; (try with_reducible rfl))
  try simp only [Act.put, List.setIfInBounds_toArray, List.set_cons_zero, List.set_cons_succ]
  refine wpAnyH_take (i := 6) (oi := { dst := some 13, op := Go.Op.fieldAddr 177 (Go.Operand.tmp 12) 1, type := 0, pos := _, after := #[{ on := 5, ground := Go.Ground.data }], guard := none }) (v := ?vv16) rfl (by kernel_rfl) (by kernel_rfl) (by kernel_rfl) (fun _ _ _ h => h) (Or.inl ⟨by rfl, ?hy16⟩) (by assumption) ?tk16
  case hy16 => (intro w hSw; (try dsimp only at hSw); go_simp; (try with_reducible rfl))
  try simp only [Act.put, List.setIfInBounds_toArray, List.set_cons_zero, List.set_cons_succ]
  refine wpAnyH_take (i := 7) (oi := { dst := some 14, op := Go.Op.load 34 (Go.Operand.tmp 13), type := 34, pos := _, after := #[{ on := 6, ground := Go.Ground.data }], guard := none }) (v := ?vv17) rfl (by kernel_rfl) (by kernel_rfl) (by kernel_rfl) (fun _ _ _ h => h) (Or.inl ⟨by rfl, ?hy17⟩) (by assumption) ?tk17
  case hy17 => (intro w hSw; (try dsimp only at hSw); go_simp; (try with_reducible rfl))
  try simp only [Act.put, List.setIfInBounds_toArray, List.set_cons_zero, List.set_cons_succ]
  refine wpAnyH_take (i := 8) (oi := { dst := some 15, op := Go.Op.nilCheck (Go.Operand.tmp 7), type := 0, pos := _, after := #[{ on := 0, ground := Go.Ground.data }], guard := none }) (v := ?vv18) rfl (by kernel_rfl) (by kernel_rfl) (by kernel_rfl) (fun _ _ _ h => h) (Or.inl ⟨by rfl, ?hy18⟩) (by assumption) ?tk18
  case hy18 => (intro w hSw; (try dsimp only at hSw); go_simp; (try with_reducible rfl))
  try simp only [Act.put, List.setIfInBounds_toArray, List.set_cons_zero, List.set_cons_succ]
  refine wpAnyH_take (i := 9) (oi := { dst := some 16, op := Go.Op.fieldAddr 188 (Go.Operand.tmp 15) 3, type := 0, pos := _, after := #[{ on := 8, ground := Go.Ground.data }], guard := none }) (v := ?vv19) rfl (by kernel_rfl) (by kernel_rfl) (by kernel_rfl) (fun _ _ _ h => h) (Or.inl ⟨by rfl, ?hy19⟩) (by assumption) ?tk19
  case hy19 => (intro w hSw; (try dsimp only at hSw); go_simp; (try with_reducible rfl))
  try simp only [Act.put, List.setIfInBounds_toArray, List.set_cons_zero, List.set_cons_succ]
  refine wpAnyH_take (i := 10) (oi := { dst := some 17, op := Go.Op.indexAddr 186 (Go.Operand.tmp 16) (Go.Operand.tmp 14), type := 0, pos := _, after := #[{ on := 9, ground := Go.Ground.data }, { on := 7, ground := Go.Ground.data }], guard := none }) (v := ?vv20) rfl (by kernel_rfl) (by kernel_rfl) (by kernel_rfl) (fun _ _ _ h => h) (Or.inl ⟨by rfl, ?hy20⟩) (by assumption) ?tk20
  case hy20 => (intro w hSw; (try dsimp only at hSw); go_simp; (try with_reducible rfl))
  try simp only [Act.put, List.setIfInBounds_toArray, List.set_cons_zero, List.set_cons_succ]
  refine wpAnyH_take (i := 13) (oi := { dst := some 20, op := Go.Op.nilCheck (Go.Operand.tmp 7), type := 0, pos := _, after := #[{ on := 0, ground := Go.Ground.data }], guard := none }) (v := ?vv21) rfl (by kernel_rfl) (by kernel_rfl) (by kernel_rfl) (fun _ _ _ h => h) (Or.inl ⟨by rfl, ?hy21⟩) (by assumption) ?tk21
  case hy21 => (intro w hSw; (try dsimp only at hSw); go_simp; (try with_reducible rfl))
  try simp only [Act.put, List.setIfInBounds_toArray, List.set_cons_zero, List.set_cons_succ]
  refine wpAnyH_take (i := 14) (oi := { dst := some 21, op := Go.Op.fieldAddr 188 (Go.Operand.tmp 20) 3, type := 0, pos := _, after := #[{ on := 13, ground := Go.Ground.data }], guard := none }) (v := ?vv22) rfl (by kernel_rfl) (by kernel_rfl) (by kernel_rfl) (fun _ _ _ h => h) (Or.inl ⟨by rfl, ?hy22⟩) (by assumption) ?tk22
  case hy22 => (intro w hSw; (try dsimp only at hSw); go_simp; (try with_reducible rfl))
  try simp only [Act.put, List.setIfInBounds_toArray, List.set_cons_zero, List.set_cons_succ]
  refine wpAnyH_ready (rs := [11]) (by kernel_rfl) (by simp) ?_
  refine AllReadyH.cons (o := { dst := some 18, op := Go.Op.load 3 (Go.Operand.tmp 17), type := 3, pos := _, after := #[{ on := 10, ground := Go.Ground.data }], guard := none }) rfl (fun K' hK' => ?_) AllReadyH.nil
  go_simp
  clear hHeld
  refine hK'.out _ _ (by go_simp) (fun hHeld => ?_)
  clear hK' K'
  try simp only [Act.put, List.setIfInBounds_toArray, List.set_cons_zero, List.set_cons_succ]
  refine wpAnyH_take (i := 12) (oi := { dst := some 19, op := Go.Op.binOp Go.BinOp.sub 3 (Go.Operand.tmp 18) (Go.Operand.const (Go.Value.int Go.IntKind.i64 1)) 3, type := 3, pos := _, after := #[{ on := 11, ground := Go.Ground.data }], guard := none }) (v := ?vv23) rfl (by kernel_rfl) (by kernel_rfl) (by kernel_rfl) (fun _ _ _ h => h) (Or.inl ⟨by rfl, ?hy23⟩) (by assumption) ?tk23
  case hy23 => (intro w hSw; (try dsimp only at hSw); go_simp; (try with_reducible rfl))
  try simp only [Act.put, List.setIfInBounds_toArray, List.set_cons_zero, List.set_cons_succ]
  refine wpAnyH_take (i := 15) (oi := { dst := some 22, op := Go.Op.indexAddr 186 (Go.Operand.tmp 21) (Go.Operand.tmp 14), type := 0, pos := _, after := #[{ on := 14, ground := Go.Ground.data }, { on := 7, ground := Go.Ground.data }, { on := 0, ground := Go.Ground.phase }, { on := 1, ground := Go.Ground.phase }, { on := 2, ground := Go.Ground.phase }, { on := 3, ground := Go.Ground.phase }, { on := 4, ground := Go.Ground.phase }, { on := 5, ground := Go.Ground.phase }, { on := 6, ground := Go.Ground.phase }, { on := 7, ground := Go.Ground.phase }, { on := 8, ground := Go.Ground.phase }, { on := 9, ground := Go.Ground.phase }, { on := 10, ground := Go.Ground.phase }, { on := 11, ground := Go.Ground.phase }, { on := 12, ground := Go.Ground.phase }], guard := none }) (v := ?vv24) rfl (by kernel_rfl) (by kernel_rfl) (by kernel_rfl) (fun _ _ _ h => h) (Or.inl ⟨by rfl, ?hy24⟩) (by assumption) ?tk24
  case hy24 => (intro w hSw; (try dsimp only at hSw); go_simp; (try with_reducible rfl))
  try simp only [Act.put, List.setIfInBounds_toArray, List.set_cons_zero, List.set_cons_succ]
  refine wpAnyH_ready (rs := [16]) (by kernel_rfl) (by simp) ?_
  refine AllReadyH.cons (o := { dst := none, op := Go.Op.store 3 (Go.Operand.tmp 22) (Go.Operand.tmp 19), type := 0, pos := _, after := #[{ on := 15, ground := Go.Ground.data }, { on := 12, ground := Go.Ground.data }, { on := 0, ground := Go.Ground.phase }, { on := 1, ground := Go.Ground.phase }, { on := 2, ground := Go.Ground.phase }, { on := 3, ground := Go.Ground.phase }, { on := 4, ground := Go.Ground.phase }, { on := 5, ground := Go.Ground.phase }, { on := 6, ground := Go.Ground.phase }, { on := 7, ground := Go.Ground.phase }, { on := 8, ground := Go.Ground.phase }, { on := 9, ground := Go.Ground.phase }, { on := 10, ground := Go.Ground.phase }, { on := 11, ground := Go.Ground.phase }, { on := 12, ground := Go.Ground.phase }], guard := none }) rfl (fun K' hK' => ?_) AllReadyH.nil
  go_simp
  clear hHeld
  refine hK'.out _ _ (by go_simp) (fun hHeld => ?_)
  clear hK' K'
  try simp only [Act.put, List.setIfInBounds_toArray, List.set_cons_zero, List.set_cons_succ]
  refine wpAnyH_done (by kernel_rfl) ?_ _
  go_wp2_with fail
  go_region_held3 (fun w' => w'.cell? ⟨0, 0, none⟩ = some (.int .u8 0) ∧ w'.cell? ⟨0, 1, none⟩ = some (.int .i64 (-1)) ∧ w'.cell? ⟨0, 2, none⟩ = some (.int .i8 0) ∧ w'.cell? ⟨0, 3, none⟩ = some (.int .i8 (-1)) ∧ w'.cell? ⟨0, 4, none⟩ = some (.int .i8 (-1))) (refine ⟨?_, ?_, ?_, ?_, ?_⟩ <;> go_simp) (fail)
  go_wp2
  go_end0
  exact ⟨rfl, ((((((H1.putLd hh _).putSt ht _).putHome ht _).putBand ht _).putPrev ht _).putNext ht _).drew.drew, M1.trans (((((((Mut.refl B 6596 6724 _).setCell (by omega) (by omega) _).setCell (by omega) (by omega) _).setCell (by omega) (by omega) _).setCell (by omega) (by omega) _).setCell (by omega) (by omega) _).setCell (by omega) (by omega) _).drew.drew⟩
end Go.Proofs.Qxb6500877aGreatDoor
