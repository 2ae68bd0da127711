import Derived.Test.Qxb6500877aGreatDoorPMc
set_option linter.unusedVariables false
set_option linter.unusedSimpArgs false
namespace Go.Proofs.Qxb6500877aGreatDoor
open Go.RowKit



theorem Mach.cnt0 {w : World} {B mb t k : Nat} {ν : Net} {τ : TSt} {σ : Sg} {c : Nat} (h : Mach w B mb t k ν τ σ) (hc : c < 4) : ∃ v, Hid (σ.st (c * 7) = v) ∧ w.cell? ⟨B, 6724 + c * 7, none⟩ = some (.int .u64 v) := ⟨_, hideIt rfl, h.sts (c * 7) (by omega)⟩
theorem Mach.cntf {w : World} {B mb t k : Nat} {ν : Net} {τ : TSt} {σ : Sg} {c f : Nat} (h : Mach w B mb t k ν τ σ) (hc : c < 4) (hf : f < 7) : ∃ v, Hid (σ.st (c * 7 + f) = v) ∧ w.cell? ⟨B, 6724 + c * 7 + f, none⟩ = some (.int .u64 v) :=
  ⟨_, hideIt rfl, by rw [Nat.add_assoc]; exact h.sts (c * 7 + f) (by omega)⟩
theorem Done.stat0 {w w1 : World} {B mb t k c : Nat} {ν : Net} {τ : TSt} {σ : Sg} {v : Int} (h : Done w w1 B mb t k ν τ σ) (hc : c < 4) (hv : Hid (σ.st (c * 7) = v)) : Done w (w1.setCell ⟨B, 6724 + c * 7, none⟩ (.int .u64 (IntKind.u64.wrap (v + 1)))) B mb t k ν τ (σ.inc (c * 7)) := by
  rw [← hv.out]
  exact h.stat (j := c * 7) (by omega)
theorem Done.statf {w w1 : World} {B mb t k c f : Nat} {ν : Net} {τ : TSt} {σ : Sg} {v : Int} (h : Done w w1 B mb t k ν τ σ) (hc : c < 4) (hf : f < 7) (hv : Hid (σ.st (c * 7 + f) = v)) : Done w (w1.setCell ⟨B, 6724 + c * 7 + f, none⟩ (.int .u64 (IntKind.u64.wrap (v + 1)))) B mb t k ν τ (σ.inc (c * 7 + f)) := by
  rw [← hv.out, Nat.add_assoc]
  exact h.stat (j := c * 7 + f) (by omega)
/-- What a pick answers (the task and the code), and what it leaves. -/
structure PRes where
  tk : Int
  c : Int
  σ : Sg
def pickRes (σ : Sg) (c : Nat) : PRes := if σ.s.cur c ≠ -1 ∨ 0 < σ.s.qn c then ⟨pickX σ.s c, 0, (if σ.s.cur c = -1 then σ.put (pickS σ.s c) else (σ.put (pickS σ.s c)).inc (c * 7 + 1)).inc (c * 7)⟩ else ⟨-1, 1, σ⟩
/-- Three numbers are returned. -/
def Three (e : Ending) : Prop := ∃ a b c : Int, e = .returned (.tuple #[.int .i64 a, .int .i64 b, .int .i64 c])
theorem three_mk (a b c : Int) : Three (.returned (.tuple #[.int .i64 a, .int .i64 b, .int .i64 c])) := ⟨a, b, c, rfl⟩
theorem hide_at {w w1 : World} {B mb t k : Nat} {ν : Net} {τ : TSt} {σ : Sg} (h : Done w w1 B mb t k ν τ σ) : w1.cell? ⟨B, 6752, none⟩ = some .nilIface := h.m.snk

set_option maxHeartbeats 4000000 in
theorem pick_m {w : World} {B mb t k : Nat} {ν : Net} {τ : TSt} {σ : Sg} (M : Mach w B mb t k ν τ σ) (v : Int) : Calls Tryz.prog 65 #[.pointer (some ⟨B, 0, none⟩), .int .i64 v] w fun e w' => ∃ c : Nat, c < 4 ∧ v % 4 = (c : Int) ∧ e = .returned (.tuple #[.int .i64 (c : Int), .int .i64 (pickRes σ c).tk, .int .i64 (pickRes σ c).c]) ∧ Done w w' B mb t k ν τ (pickRes σ c).σ := by
  obtain ⟨S, K⟩ := M.sch
  obtain ⟨c, hc, ec⟩ : ∃ c : Nat, c < 4 ∧ v % 4 = (c : Int) := ⟨(v % 4).toNat, by omega, by omega⟩
  have hf := foldCore_any v w
  rw [ec] at hf
  have EC := hideIt ec
  clear ec
  have j0 : (0 : Int) ≤ c := by omega
  have j1 : (c : Int) < 4 := by omega
  have hrun := runnable_any S hc
  by_cases hr : σ.s.cur c ≠ -1 ∨ 0 < σ.s.qn c
  · rw [decide_eq_true hr] at hrun
    have HR := hideIt hr
    clear hr
    go_enter Tryz.func65, Tryz.ntmps65
    go_wp2_with fail
    refine hf.mono ?_
    rintro e w ⟨rfl, rfl⟩
    go_wp2_with fail
    refine hrun.mono ?_
    rintro e w ⟨rfl, rfl⟩
    go_wp2_with fail
    refine (pick_s S K hc HR.out).mono ?_
    rintro e w1 ⟨⟨hx, rfl, S1, K1⟩, M1⟩
    have D1 := (Done.refl M).mut M1 (by omega) (M.sched M1 ⟨S1, K1⟩)
    by_cases hp : σ.s.cur c = -1
    · have hb : (σ.s.cur c != -1) = false := by simp [hp]
      have HP : Hid (pickRes σ c = ⟨pickX σ.s c, 0, (σ.put (pickS σ.s c)).inc (c * 7)⟩) := hideIt (by rw [pickRes, if_pos HR.out, if_pos hp])
      clear hp
      obtain ⟨v2, E2, hv2⟩ := D1.m.cnt0 hc
      have fz := D1.m.frz
      go_wp2_with fail
      refine wp_region_held_drew (S := (fun _ => True)) (by kernel_rfl) trivial (fun hHeld => ?_)
      refine wpAnyH_take (i := 0) (oi := { dst := some 47, op := Go.Op.move (Go.Operand.tmp 0), type := 24, pos := _, after := #[], guard := none }) (v := ?vv1) rfl (by kernel_rfl) (by kernel_rfl) (by kernel_rfl) (fun _ _ _ h => h) (Or.inl ⟨by rfl, ?hy1⟩) (by assumption) ?tk1
      case hy1 => (intro w hSw; (try dsimp only at hSw); go_simp; (try with_reducible rfl))
      try simp only [Act.put, List.setIfInBounds_toArray, List.set_cons_zero, List.set_cons_succ]
      refine wpAnyH_take (i := 1) (oi := { dst := some 48, op := Go.Op.move (Go.Operand.tmp 7), type := 34, pos := _, after := #[], guard := none }) (v := ?vv2) rfl (by kernel_rfl) (by kernel_rfl) (by kernel_rfl) (fun _ _ _ h => h) (Or.inl ⟨by rfl, ?hy2⟩) (by assumption) ?tk2
      case hy2 => (intro w hSw; (try dsimp only at hSw); go_simp; (try with_reducible rfl))
      try simp only [Act.put, List.setIfInBounds_toArray, List.set_cons_zero, List.set_cons_succ]
      refine wpAnyH_take (i := 2) (oi := { dst := some 49, op := Go.Op.nilCheck (Go.Operand.tmp 47), type := 0, pos := _, after := #[{ on := 0, ground := Go.Ground.data }], guard := none }) (v := ?vv3) rfl (by kernel_rfl) (by kernel_rfl) (by kernel_rfl) (fun _ _ _ h => h) (Or.inl ⟨by rfl, ?hy3⟩) (by assumption) ?tk3
      case hy3 => (intro w hSw; (try dsimp only at hSw); go_simp; (try with_reducible rfl))
      try simp only [Act.put, List.setIfInBounds_toArray, List.set_cons_zero, List.set_cons_succ]
      refine wpAnyH_take (i := 3) (oi := { dst := some 50, op := Go.Op.fieldAddr 190 (Go.Operand.tmp 49) 4, type := 0, pos := _, after := #[{ on := 2, ground := Go.Ground.data }], guard := none }) (v := ?vv4) rfl (by kernel_rfl) (by kernel_rfl) (by kernel_rfl) (fun _ _ _ h => h) (Or.inl ⟨by rfl, ?hy4⟩) (by assumption) ?tk4
      case hy4 => (intro w hSw; (try dsimp only at hSw); go_simp; (try with_reducible rfl))
      try simp only [Act.put, List.setIfInBounds_toArray, List.set_cons_zero, List.set_cons_succ]
      refine wpAnyH_take (i := 4) (oi := { dst := some 51, op := Go.Op.indexAddr 133 (Go.Operand.tmp 50) (Go.Operand.tmp 48), type := 0, pos := _, after := #[{ on := 3, ground := Go.Ground.data }, { on := 1, ground := Go.Ground.data }], guard := none }) (v := ?vv5) rfl (by kernel_rfl) (by kernel_rfl) (by kernel_rfl) (fun _ _ _ h => h) (Or.inl ⟨by rfl, ?hy5⟩) (by assumption) ?tk5
      case hy5 => (intro w hSw; (try dsimp only at hSw); go_simp; (try with_reducible rfl))
      try simp only [Act.put, List.setIfInBounds_toArray, List.set_cons_zero, List.set_cons_succ]
      refine wpAnyH_take (i := 5) (oi := { dst := some 52, op := Go.Op.fieldAddr 52 (Go.Operand.tmp 51) 0, type := 0, pos := _, after := #[{ on := 4, ground := Go.Ground.data }], guard := none }) (v := ?vv6) rfl (by kernel_rfl) (by kernel_rfl) (by kernel_rfl) (fun _ _ _ h => h) (Or.inl ⟨by rfl, ?hy6⟩) (by assumption) ?tk6
      case hy6 => (intro w hSw; (try dsimp only at hSw); go_simp; (try with_reducible rfl))
      try simp only [Act.put, List.setIfInBounds_toArray, List.set_cons_zero, List.set_cons_succ]
      refine wpAnyH_take (i := 8) (oi := { dst := some 55, op := Go.Op.nilCheck (Go.Operand.tmp 47), type := 0, pos := _, after := #[{ on := 0, ground := Go.Ground.data }], guard := none }) (v := ?vv7) rfl (by kernel_rfl) (by kernel_rfl) (by kernel_rfl) (fun _ _ _ h => h) (Or.inl ⟨by rfl, ?hy7⟩) (by assumption) ?tk7
      case hy7 => (intro w hSw; (try dsimp only at hSw); go_simp; (try with_reducible rfl))
      try simp only [Act.put, List.setIfInBounds_toArray, List.set_cons_zero, List.set_cons_succ]
      refine wpAnyH_take (i := 9) (oi := { dst := some 56, op := Go.Op.fieldAddr 190 (Go.Operand.tmp 55) 4, type := 0, pos := _, after := #[{ on := 8, ground := Go.Ground.data }], guard := none }) (v := ?vv8) rfl (by kernel_rfl) (by kernel_rfl) (by kernel_rfl) (fun _ _ _ h => h) (Or.inl ⟨by rfl, ?hy8⟩) (by assumption) ?tk8
      case hy8 => (intro w hSw; (try dsimp only at hSw); go_simp; (try with_reducible rfl))
      try simp only [Act.put, List.setIfInBounds_toArray, List.set_cons_zero, List.set_cons_succ]
      refine wpAnyH_ready (rs := [6]) (by kernel_rfl) (by simp) ?_
      refine AllReadyH.cons (o := { dst := some 53, op := Go.Op.load 28 (Go.Operand.tmp 52), type := 28, pos := _, after := #[{ on := 5, ground := Go.Ground.data }], guard := none }) rfl (fun K' hK' => ?_) AllReadyH.nil
      go_simp
      clear hHeld
      refine hK'.out _ _ trivial (fun hHeld => ?_)
      clear hK' K'
      try simp only [Act.put, List.setIfInBounds_toArray, List.set_cons_zero, List.set_cons_succ]
      refine wpAnyH_take (i := 7) (oi := { dst := some 54, op := Go.Op.binOp Go.BinOp.add 28 (Go.Operand.tmp 53) (Go.Operand.const (Go.Value.int Go.IntKind.u64 1)) 28, type := 28, pos := _, after := #[{ on := 6, ground := Go.Ground.data }], guard := none }) (v := ?vv9) rfl (by kernel_rfl) (by kernel_rfl) (by kernel_rfl) (fun _ _ _ h => h) (Or.inl ⟨by rfl, ?hy9⟩) (by assumption) ?tk9
      case hy9 => (intro w hSw; (try dsimp only at hSw); go_simp; (try with_reducible rfl))
      try simp only [Act.put, List.setIfInBounds_toArray, List.set_cons_zero, List.set_cons_succ]
      refine wpAnyH_take (i := 10) (oi := { dst := some 57, op := Go.Op.indexAddr 133 (Go.Operand.tmp 56) (Go.Operand.tmp 48), type := 0, pos := _, after := #[{ on := 9, ground := Go.Ground.data }, { on := 1, ground := Go.Ground.data }, { on := 0, ground := Go.Ground.phase }, { on := 1, ground := Go.Ground.phase }, { on := 2, ground := Go.Ground.phase }, { on := 3, ground := Go.Ground.phase }, { on := 4, ground := Go.Ground.phase }, { on := 5, ground := Go.Ground.phase }, { on := 6, ground := Go.Ground.phase }, { on := 7, ground := Go.Ground.phase }], guard := none }) (v := ?vv10) rfl (by kernel_rfl) (by kernel_rfl) (by kernel_rfl) (fun _ _ _ h => h) (Or.inl ⟨by rfl, ?hy10⟩) (by assumption) ?tk10
      case hy10 => (intro w hSw; (try dsimp only at hSw); go_simp; (try with_reducible rfl))
      try simp only [Act.put, List.setIfInBounds_toArray, List.set_cons_zero, List.set_cons_succ]
      refine wpAnyH_take (i := 11) (oi := { dst := some 58, op := Go.Op.fieldAddr 52 (Go.Operand.tmp 57) 0, type := 0, pos := _, after := #[{ on := 10, ground := Go.Ground.data }, { on := 0, ground := Go.Ground.phase }, { on := 1, ground := Go.Ground.phase }, { on := 2, ground := Go.Ground.phase }, { on := 3, ground := Go.Ground.phase }, { on := 4, ground := Go.Ground.phase }, { on := 5, ground := Go.Ground.phase }, { on := 6, ground := Go.Ground.phase }, { on := 7, ground := Go.Ground.phase }], guard := none }) (v := ?vv11) rfl (by kernel_rfl) (by kernel_rfl) (by kernel_rfl) (fun _ _ _ h => h) (Or.inl ⟨by rfl, ?hy11⟩) (by assumption) ?tk11
      case hy11 => (intro w hSw; (try dsimp only at hSw); go_simp; (try with_reducible rfl))
      try simp only [Act.put, List.setIfInBounds_toArray, List.set_cons_zero, List.set_cons_succ]
      refine wpAnyH_ready (rs := [12]) (by kernel_rfl) (by simp) ?_
      refine AllReadyH.cons (o := { dst := none, op := Go.Op.store 28 (Go.Operand.tmp 58) (Go.Operand.tmp 54), type := 0, pos := _, after := #[{ on := 11, ground := Go.Ground.data }, { on := 7, ground := Go.Ground.data }, { on := 0, ground := Go.Ground.phase }, { on := 1, ground := Go.Ground.phase }, { on := 2, ground := Go.Ground.phase }, { on := 3, ground := Go.Ground.phase }, { on := 4, ground := Go.Ground.phase }, { on := 5, ground := Go.Ground.phase }, { on := 6, ground := Go.Ground.phase }, { on := 7, ground := Go.Ground.phase }], guard := none }) rfl (fun K' hK' => ?_) AllReadyH.nil
      go_simp
      clear hHeld
      refine hK'.out _ _ trivial (fun hHeld => ?_)
      clear hK' K'
      try simp only [Act.put, List.setIfInBounds_toArray, List.set_cons_zero, List.set_cons_succ]
      refine wpAnyH_done (by kernel_rfl) ?_ _
      have D3 := (D1.stat0 hc E2).drew
      go_wp2_with fail
      refine (noteTask_any (hide_at D3)).mono ?_
      rintro e w3 ⟨rfl, rfl⟩
      go_wp2
      go_ret3
      refine ⟨c, hc, EC.out, ?_⟩
      rw [HP.out]
      exact ⟨rfl, D3⟩
    · have hb : (σ.s.cur c != -1) = true := by simpa using hp
      have HP : Hid (pickRes σ c = ⟨pickX σ.s c, 0, ((σ.put (pickS σ.s c)).inc (c * 7 + 1)).inc (c * 7)⟩) := hideIt (by rw [pickRes, if_pos HR.out, if_neg hp])
      clear hp
      obtain ⟨v1, E1, hv1⟩ := D1.m.cntf (f := 1) hc (by omega)
      have fz := D1.m.frz
      go_wp2_with fail
      refine wp_region_held_drew (S := (fun _ => True)) (by kernel_rfl) trivial (fun hHeld => ?_)
      refine wpAnyH_take (i := 0) (oi := { dst := some 31, op := Go.Op.move (Go.Operand.tmp 0), type := 24, pos := _, after := #[], guard := none }) (v := ?vv12) rfl (by kernel_rfl) (by kernel_rfl) (by kernel_rfl) (fun _ _ _ h => h) (Or.inl ⟨by rfl, ?hy12⟩) (by assumption) ?tk12
      case hy12 => (intro w hSw; (try dsimp only at hSw); go_simp; (try with_reducible rfl))
      try simp only [Act.put, List.setIfInBounds_toArray, List.set_cons_zero, List.set_cons_succ]
      refine wpAnyH_take (i := 1) (oi := { dst := some 32, op := Go.Op.move (Go.Operand.tmp 7), type := 34, pos := _, after := #[], guard := none }) (v := ?vv13) rfl (by kernel_rfl) (by kernel_rfl) (by kernel_rfl) (fun _ _ _ h => h) (Or.inl ⟨by rfl, ?hy13⟩) (by assumption) ?tk13
      case hy13 => (intro w hSw; (try dsimp only at hSw); go_simp; (try with_reducible rfl))
      try simp only [Act.put, List.setIfInBounds_toArray, List.set_cons_zero, List.set_cons_succ]
      refine wpAnyH_take (i := 2) (oi := { dst := some 33, op := Go.Op.nilCheck (Go.Operand.tmp 31), type := 0, pos := _, after := #[{ on := 0, ground := Go.Ground.data }], guard := none }) (v := ?vv14) rfl (by kernel_rfl) (by kernel_rfl) (by kernel_rfl) (fun _ _ _ h => h) (Or.inl ⟨by rfl, ?hy14⟩) (by assumption) ?tk14
      case hy14 => (intro w hSw; (try dsimp only at hSw); go_simp; (try with_reducible rfl))
      try simp only [Act.put, List.setIfInBounds_toArray, List.set_cons_zero, List.set_cons_succ]
      refine wpAnyH_take (i := 3) (oi := { dst := some 34, op := Go.Op.fieldAddr 190 (Go.Operand.tmp 33) 4, type := 0, pos := _, after := #[{ on := 2, ground := Go.Ground.data }], guard := none }) (v := ?vv15) rfl (by kernel_rfl) (by kernel_rfl) (by kernel_rfl) (fun _ _ _ h => h) (Or.inl ⟨by rfl, ?hy15⟩) (by assumption) ?tk15
      case hy15 => (intro w hSw; (try dsimp only at hSw); go_simp; (try with_reducible rfl))
      try simp only [Act.put, List.setIfInBounds_toArray, List.set_cons_zero, List.set_cons_succ]
      refine wpAnyH_take (i := 4) (oi := { dst := some 35, op := Go.Op.indexAddr 133 (Go.Operand.tmp 34) (Go.Operand.tmp 32), type := 0, pos := _, after := #[{ on := 3, ground := Go.Ground.data }, { on := 1, ground := Go.Ground.data }], guard := none }) (v := ?vv16) rfl (by kernel_rfl) (by kernel_rfl) (by kernel_rfl) (fun _ _ _ h => h) (Or.inl ⟨by rfl, ?hy16⟩) (by assumption) ?tk16
      case hy16 => (intro w hSw; (try dsimp only at hSw); go_simp; (try with_reducible rfl))
      try simp only [Act.put, List.setIfInBounds_toArray, List.set_cons_zero, List.set_cons_succ]
      refine wpAnyH_take (i := 5) (oi := { dst := some 36, op := Go.Op.fieldAddr 52 (Go.Operand.tmp 35) 1, type := 0, pos := _, after := #[{ on := 4, ground := Go.Ground.data }], guard := none }) (v := ?vv17) rfl (by kernel_rfl) (by kernel_rfl) (by kernel_rfl) (fun _ _ _ h => h) (Or.inl ⟨by rfl, ?hy17⟩) (by assumption) ?tk17
      case hy17 => (intro w hSw; (try dsimp only at hSw); go_simp; (try with_reducible rfl))
      try simp only [Act.put, List.setIfInBounds_toArray, List.set_cons_zero, List.set_cons_succ]
      refine wpAnyH_take (i := 8) (oi := { dst := some 39, op := Go.Op.nilCheck (Go.Operand.tmp 31), type := 0, pos := _, after := #[{ on := 0, ground := Go.Ground.data }], guard := none }) (v := ?vv18) rfl (by kernel_rfl) (by kernel_rfl) (by kernel_rfl) (fun _ _ _ h => h) (Or.inl ⟨by rfl, ?hy18⟩) (by assumption) ?tk18
      case hy18 => (intro w hSw; (try dsimp only at hSw); go_simp; (try with_reducible rfl))
      try simp only [Act.put, List.setIfInBounds_toArray, List.set_cons_zero, List.set_cons_succ]
      refine wpAnyH_take (i := 9) (oi := { dst := some 40, op := Go.Op.fieldAddr 190 (Go.Operand.tmp 39) 4, type := 0, pos := _, after := #[{ on := 8, ground := Go.Ground.data }], guard := none }) (v := ?vv19) rfl (by kernel_rfl) (by kernel_rfl) (by kernel_rfl) (fun _ _ _ h => h) (Or.inl ⟨by rfl, ?hy19⟩) (by assumption) ?tk19
      case hy19 => (intro w hSw; (try dsimp only at hSw); go_simp; (try with_reducible rfl))
      try simp only [Act.put, List.setIfInBounds_toArray, List.set_cons_zero, List.set_cons_succ]
      refine wpAnyH_ready (rs := [6]) (by kernel_rfl) (by simp) ?_
      refine AllReadyH.cons (o := { dst := some 37, op := Go.Op.load 28 (Go.Operand.tmp 36), type := 28, pos := _, after := #[{ on := 5, ground := Go.Ground.data }], guard := none }) rfl (fun K' hK' => ?_) AllReadyH.nil
      go_simp
      clear hHeld
      refine hK'.out _ _ trivial (fun hHeld => ?_)
      clear hK' K'
      try simp only [Act.put, List.setIfInBounds_toArray, List.set_cons_zero, List.set_cons_succ]
      refine wpAnyH_take (i := 7) (oi := { dst := some 38, op := Go.Op.binOp Go.BinOp.add 28 (Go.Operand.tmp 37) (Go.Operand.const (Go.Value.int Go.IntKind.u64 1)) 28, type := 28, pos := _, after := #[{ on := 6, ground := Go.Ground.data }], guard := none }) (v := ?vv20) rfl (by kernel_rfl) (by kernel_rfl) (by kernel_rfl) (fun _ _ _ h => h) (Or.inl ⟨by rfl, ?hy20⟩) (by assumption) ?tk20
      case hy20 => (intro w hSw; (try dsimp only at hSw); go_simp; (try with_reducible rfl))
      try simp only [Act.put, List.setIfInBounds_toArray, List.set_cons_zero, List.set_cons_succ]
      refine wpAnyH_take (i := 10) (oi := { dst := some 41, op := Go.Op.indexAddr 133 (Go.Operand.tmp 40) (Go.Operand.tmp 32), type := 0, pos := _, after := #[{ on := 9, ground := Go.Ground.data }, { on := 1, ground := Go.Ground.data }, { on := 0, ground := Go.Ground.phase }, { on := 1, ground := Go.Ground.phase }, { on := 2, ground := Go.Ground.phase }, { on := 3, ground := Go.Ground.phase }, { on := 4, ground := Go.Ground.phase }, { on := 5, ground := Go.Ground.phase }, { on := 6, ground := Go.Ground.phase }, { on := 7, ground := Go.Ground.phase }], guard := none }) (v := ?vv21) rfl (by kernel_rfl) (by kernel_rfl) (by kernel_rfl) (fun _ _ _ h => h) (Or.inl ⟨by rfl, ?hy21⟩) (by assumption) ?tk21
      case hy21 => (intro w hSw; (try dsimp only at hSw); go_simp; (try with_reducible rfl))
      try simp only [Act.put, List.setIfInBounds_toArray, List.set_cons_zero, List.set_cons_succ]
      refine wpAnyH_take (i := 11) (oi := { dst := some 42, op := Go.Op.fieldAddr 52 (Go.Operand.tmp 41) 1, type := 0, pos := _, after := #[{ on := 10, ground := Go.Ground.data }, { on := 0, ground := Go.Ground.phase }, { on := 1, ground := Go.Ground.phase }, { on := 2, ground := Go.Ground.phase }, { on := 3, ground := Go.Ground.phase }, { on := 4, ground := Go.Ground.phase }, { on := 5, ground := Go.Ground.phase }, { on := 6, ground := Go.Ground.phase }, { on := 7, ground := Go.Ground.phase }], guard := none }) (v := ?vv22) rfl (by kernel_rfl) (by kernel_rfl) (by kernel_rfl) (fun _ _ _ h => h) (Or.inl ⟨by rfl, ?hy22⟩) (by assumption) ?tk22
      case hy22 => (intro w hSw; (try dsimp only at hSw); go_simp; (try with_reducible rfl))
      try simp only [Act.put, List.setIfInBounds_toArray, List.set_cons_zero, List.set_cons_succ]
      refine wpAnyH_ready (rs := [12]) (by kernel_rfl) (by simp) ?_
      refine AllReadyH.cons (o := { dst := none, op := Go.Op.store 28 (Go.Operand.tmp 42) (Go.Operand.tmp 38), type := 0, pos := _, after := #[{ on := 11, ground := Go.Ground.data }, { on := 7, ground := Go.Ground.data }, { on := 0, ground := Go.Ground.phase }, { on := 1, ground := Go.Ground.phase }, { on := 2, ground := Go.Ground.phase }, { on := 3, ground := Go.Ground.phase }, { on := 4, ground := Go.Ground.phase }, { on := 5, ground := Go.Ground.phase }, { on := 6, ground := Go.Ground.phase }, { on := 7, ground := Go.Ground.phase }], guard := none }) rfl (fun K' hK' => ?_) AllReadyH.nil
      go_simp
      clear hHeld
      refine hK'.out _ _ trivial (fun hHeld => ?_)
      clear hK' K'
      try simp only [Act.put, List.setIfInBounds_toArray, List.set_cons_zero, List.set_cons_succ]
      refine wpAnyH_done (by kernel_rfl) ?_ _
      have D2 := (D1.statf hc (f := 1) (by omega) E1).drew
      go_wp2_with fail
      refine (noteTask_any (hide_at D2)).mono ?_
      rintro e w2 ⟨rfl, hw2⟩
      rw [← hw2] at D2
      clear hw2 fz hv1
      obtain ⟨v2, E2, hv2⟩ := D2.m.cnt0 hc
      have fz := D2.m.frz
      go_wp2_with fail
      refine wp_region_held_drew (S := (fun _ => True)) (by kernel_rfl) trivial (fun hHeld => ?_)
      refine wpAnyH_take (i := 0) (oi := { dst := some 47, op := Go.Op.move (Go.Operand.tmp 0), type := 24, pos := _, after := #[], guard := none }) (v := ?vv23) rfl (by kernel_rfl) (by kernel_rfl) (by kernel_rfl) (fun _ _ _ h => h) (Or.inl ⟨by rfl, ?hy23⟩) (by assumption) ?tk23
      case hy23 => (intro w hSw; (try dsimp only at hSw); go_simp; (try with_reducible rfl))
      try simp only [Act.put, List.setIfInBounds_toArray, List.set_cons_zero, List.set_cons_succ]
      refine wpAnyH_take (i := 1) (oi := { dst := some 48, op := Go.Op.move (Go.Operand.tmp 7), type := 34, pos := _, after := #[], guard := none }) (v := ?vv24) rfl (by kernel_rfl) (by kernel_rfl) (by kernel_rfl) (fun _ _ _ h => h) (Or.inl ⟨by rfl, ?hy24⟩) (by assumption) ?tk24
      case hy24 => (intro w hSw; (try dsimp only at hSw); go_simp; (try with_reducible rfl))
      try simp only [Act.put, List.setIfInBounds_toArray, List.set_cons_zero, List.set_cons_succ]
      refine wpAnyH_take (i := 2) (oi := { dst := some 49, op := Go.Op.nilCheck (Go.Operand.tmp 47), type := 0, pos := _, after := #[{ on := 0, ground := Go.Ground.data }], guard := none }) (v := ?vv25) rfl (by kernel_rfl) (by kernel_rfl) (by kernel_rfl) (fun _ _ _ h => h) (Or.inl ⟨by rfl, ?hy25⟩) (by assumption) ?tk25
      case hy25 => (intro w hSw; (try dsimp only at hSw); go_simp; (try with_reducible rfl))
      try simp only [Act.put, List.setIfInBounds_toArray, List.set_cons_zero, List.set_cons_succ]
      refine wpAnyH_take (i := 3) (oi := { dst := some 50, op := Go.Op.fieldAddr 190 (Go.Operand.tmp 49) 4, type := 0, pos := _, after := #[{ on := 2, ground := Go.Ground.data }], guard := none }) (v := ?vv26) rfl (by kernel_rfl) (by kernel_rfl) (by kernel_rfl) (fun _ _ _ h => h) (Or.inl ⟨by rfl, ?hy26⟩) (by assumption) ?tk26
      case hy26 => (intro w hSw; (try dsimp only at hSw); go_simp; (try with_reducible rfl))
      try simp only [Act.put, List.setIfInBounds_toArray, List.set_cons_zero, List.set_cons_succ]
      refine wpAnyH_take (i := 4) (oi := { dst := some 51, op := Go.Op.indexAddr 133 (Go.Operand.tmp 50) (Go.Operand.tmp 48), type := 0, pos := _, after := #[{ on := 3, ground := Go.Ground.data }, { on := 1, ground := Go.Ground.data }], guard := none }) (v := ?vv27) rfl (by kernel_rfl) (by kernel_rfl) (by kernel_rfl) (fun _ _ _ h => h) (Or.inl ⟨by rfl, ?hy27⟩) (by assumption) ?tk27
      case hy27 => (intro w hSw; (try dsimp only at hSw); go_simp; (try with_reducible rfl))
      try simp only [Act.put, List.setIfInBounds_toArray, List.set_cons_zero, List.set_cons_succ]
      refine wpAnyH_take (i := 5) (oi := { dst := some 52, op := Go.Op.fieldAddr 52 (Go.Operand.tmp 51) 0, type := 0, pos := _, after := #[{ on := 4, ground := Go.Ground.data }], guard := none }) (v := ?vv28) rfl (by kernel_rfl) (by kernel_rfl) (by kernel_rfl) (fun _ _ _ h => h) (Or.inl ⟨by rfl, ?hy28⟩) (by assumption) ?tk28
      case hy28 => (intro w hSw; (try dsimp only at hSw); go_simp; (try with_reducible rfl))
      try simp only [Act.put, List.setIfInBounds_toArray, List.set_cons_zero, List.set_cons_succ]
      refine wpAnyH_take (i := 8) (oi := { dst := some 55, op := Go.Op.nilCheck (Go.Operand.tmp 47), type := 0, pos := _, after := #[{ on := 0, ground := Go.Ground.data }], guard := none }) (v := ?vv29) rfl (by kernel_rfl) (by kernel_rfl) (by kernel_rfl) (fun _ _ _ h => h) (Or.inl ⟨by rfl, ?hy29⟩) (by assumption) ?tk29
      case hy29 => (intro w hSw; (try dsimp only at hSw); go_simp; (try with_reducible rfl))
      try simp only [Act.put, List.setIfInBounds_toArray, List.set_cons_zero, List.set_cons_succ]
      refine wpAnyH_take (i := 9) (oi := { dst := some 56, op := Go.Op.fieldAddr 190 (Go.Operand.tmp 55) 4, type := 0, pos := _, after := #[{ on := 8, ground := Go.Ground.data }], guard := none }) (v := ?vv30) rfl (by kernel_rfl) (by kernel_rfl) (by kernel_rfl) (fun _ _ _ h => h) (Or.inl ⟨by rfl, ?hy30⟩) (by assumption) ?tk30
      case hy30 => (intro w hSw; (try dsimp only at hSw); go_simp; (try with_reducible rfl))
      try simp only [Act.put, List.setIfInBounds_toArray, List.set_cons_zero, List.set_cons_succ]
      refine wpAnyH_ready (rs := [6]) (by kernel_rfl) (by simp) ?_
      refine AllReadyH.cons (o := { dst := some 53, op := Go.Op.load 28 (Go.Operand.tmp 52), type := 28, pos := _, after := #[{ on := 5, ground := Go.Ground.data }], guard := none }) rfl (fun K' hK' => ?_) AllReadyH.nil
      go_simp
      clear hHeld
      refine hK'.out _ _ trivial (fun hHeld => ?_)
      clear hK' K'
      try simp only [Act.put, List.setIfInBounds_toArray, List.set_cons_zero, List.set_cons_succ]
      refine wpAnyH_take (i := 7) (oi := { dst := some 54, op := Go.Op.binOp Go.BinOp.add 28 (Go.Operand.tmp 53) (Go.Operand.const (Go.Value.int Go.IntKind.u64 1)) 28, type := 28, pos := _, after := #[{ on := 6, ground := Go.Ground.data }], guard := none }) (v := ?vv31) rfl (by kernel_rfl) (by kernel_rfl) (by kernel_rfl) (fun _ _ _ h => h) (Or.inl ⟨by rfl, ?hy31⟩) (by assumption) ?tk31
      case hy31 => (intro w hSw; (try dsimp only at hSw); go_simp; (try with_reducible rfl))
      try simp only [Act.put, List.setIfInBounds_toArray, List.set_cons_zero, List.set_cons_succ]
      refine wpAnyH_take (i := 10) (oi := { dst := some 57, op := Go.Op.indexAddr 133 (Go.Operand.tmp 56) (Go.Operand.tmp 48), type := 0, pos := _, after := #[{ on := 9, ground := Go.Ground.data }, { on := 1, ground := Go.Ground.data }, { on := 0, ground := Go.Ground.phase }, { on := 1, ground := Go.Ground.phase }, { on := 2, ground := Go.Ground.phase }, { on := 3, ground := Go.Ground.phase }, { on := 4, ground := Go.Ground.phase }, { on := 5, ground := Go.Ground.phase }, { on := 6, ground := Go.Ground.phase }, { on := 7, ground := Go.Ground.phase }], guard := none }) (v := ?vv32) rfl (by kernel_rfl) (by kernel_rfl) (by kernel_rfl) (fun _ _ _ h => h) (Or.inl ⟨by rfl, ?hy32⟩) (by assumption) ?tk32
      case hy32 => (intro w hSw; (try dsimp only at hSw); go_simp; (try with_reducible rfl))
      try simp only [Act.put, List.setIfInBounds_toArray, List.set_cons_zero, List.set_cons_succ]
      refine wpAnyH_take (i := 11) (oi := { dst := some 58, op := Go.Op.fieldAddr 52 (Go.Operand.tmp 57) 0, type := 0, pos := _, after := #[{ on := 10, ground := Go.Ground.data }, { on := 0, ground := Go.Ground.phase }, { on := 1, ground := Go.Ground.phase }, { on := 2, ground := Go.Ground.phase }, { on := 3, ground := Go.Ground.phase }, { on := 4, ground := Go.Ground.phase }, { on := 5, ground := Go.Ground.phase }, { on := 6, ground := Go.Ground.phase }, { on := 7, ground := Go.Ground.phase }], guard := none }) (v := ?vv33) rfl (by kernel_rfl) (by kernel_rfl) (by kernel_rfl) (fun _ _ _ h => h) (Or.inl ⟨by rfl, ?hy33⟩) (by assumption) ?tk33
      case hy33 => (intro w hSw; (try dsimp only at hSw); go_simp; (try with_reducible rfl))
      try simp only [Act.put, List.setIfInBounds_toArray, List.set_cons_zero, List.set_cons_succ]
      refine wpAnyH_ready (rs := [12]) (by kernel_rfl) (by simp) ?_
      refine AllReadyH.cons (o := { dst := none, op := Go.Op.store 28 (Go.Operand.tmp 58) (Go.Operand.tmp 54), type := 0, pos := _, after := #[{ on := 11, ground := Go.Ground.data }, { on := 7, ground := Go.Ground.data }, { on := 0, ground := Go.Ground.phase }, { on := 1, ground := Go.Ground.phase }, { on := 2, ground := Go.Ground.phase }, { on := 3, ground := Go.Ground.phase }, { on := 4, ground := Go.Ground.phase }, { on := 5, ground := Go.Ground.phase }, { on := 6, ground := Go.Ground.phase }, { on := 7, ground := Go.Ground.phase }], guard := none }) rfl (fun K' hK' => ?_) AllReadyH.nil
      go_simp
      clear hHeld
      refine hK'.out _ _ trivial (fun hHeld => ?_)
      clear hK' K'
      try simp only [Act.put, List.setIfInBounds_toArray, List.set_cons_zero, List.set_cons_succ]
      refine wpAnyH_done (by kernel_rfl) ?_ _
      have D3 := (D2.stat0 hc E2).drew
      go_wp2_with fail
      refine (noteTask_any (hide_at D3)).mono ?_
      rintro e w3 ⟨rfl, rfl⟩
      go_wp2
      go_ret3
      refine ⟨c, hc, EC.out, ?_⟩
      rw [HP.out]
      exact ⟨rfl, D3⟩
  · rw [decide_eq_false hr] at hrun
    go_enter Tryz.func65, Tryz.ntmps65
    go_wp2_with fail
    refine hf.mono ?_
    rintro e w ⟨rfl, rfl⟩
    go_wp2_with fail
    refine hrun.mono ?_
    rintro e w ⟨rfl, rfl⟩
    go_wp2_with fail
    refine (refuse_any M.snk).mono ?_
    rintro e w1 ⟨rfl, rfl⟩
    go_wp2
    go_ret3
    refine ⟨c, hc, EC.out, ?_⟩
    rw [pickRes, if_neg hr]
    exact ⟨rfl, Done.refl M⟩

end Go.Proofs.Qxb6500877aGreatDoor
