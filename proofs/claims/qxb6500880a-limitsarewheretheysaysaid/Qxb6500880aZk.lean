import Derived.Deep.CutBlock
import Derived.OwnWalk
import Derived.Maps.AppendAt
import Derived.Maps.OwnSet
import Derived.Maps.OwnOps
import Derived.Laws.ResultCell
import Derived.Test.Qxb6500880aZj
set_option linter.unusedVariables false
set_option linter.unusedSimpArgs false
namespace Go.Proofs.Qxb6500880a
open Go.RowKit

set_option maxRecDepth 20000 in
set_option maxHeartbeats 8000000 in
theorem cand_scan {w : World} {GC gs k : Nat} {ρ : Rl} {kv av ev : Value} (St : StX w gs k ρ false kv av) (C : CurO w GC k 0) (cf : ∀ o, w.frozen? ⟨GC, o, none⟩ = false) (hne : GC ≠ gs) (hk : k ≤ 100) :
    Calls Try.prog 75 #[ev, .pointer (some ⟨gs, k * 8, none⟩), .pointer (some ⟨GC, k * 6, none⟩)] w fun e w' => e = .returned (.tuple #[.int .i64 0, .bool true]) ∧ CurO w' GC k 1 ∧ (∀ j, j ≠ k → ∀ i, i < 6 → w'.cell? ⟨GC, j * 6 + i, none⟩ = w.cell? ⟨GC, j * 6 + i, none⟩) ∧ (∀ o, w'.frozen? ⟨GC, o, none⟩ = false) ∧ Wr GC w w' := by
  have c0 := C.c0
  have c1 := C.c1
  have c2 := C.c2
  have c4 := C.c4
  have s3 : w.cell? ⟨gs, k * 8 + 3, none⟩ = some (.int .u8 0) := St.s3
  clear St C
  have hne' : ¬ (gs = GC) := fun e => hne e.symm
  go_enter Try.func75, Try.ntmps75
  go_upto_region 3 with fail
  refine wp_region_held_drew (S := (fun w' => w'.cell? ⟨GC, k * 6 + 2, none⟩ = some (.int .i64 0) ∧ w'.cell? ⟨GC, k * 6 + 1, none⟩ = some (.int .i64 1))) (by kernel_rfl) ⟨c2, c1⟩ (fun hHeld => ?_)
  refine wpAnyH_take (i := 0) (oi := { dst := some 16, op := Go.Op.move (Go.Operand.tmp 2), type := 183, pos := _, after := #[], guard := none }) (v := ?vv32001) rfl (by kernel_rfl) (by kernel_rfl) (by kernel_rfl) (fun _ _ _ h => h) (Or.inl ⟨by rfl, ?hy32001⟩) (by assumption) ?tk32001
  case hy32001 => (intro w hSw; (try dsimp only at hSw); go_simp; (try with_reducible rfl))
  try simp only [Act.put, List.setIfInBounds_toArray, List.set_cons_zero, List.set_cons_succ]
  refine wpAnyH_take (i := 1) (oi := { dst := some 17, op := Go.Op.nilCheck (Go.Operand.tmp 16), type := 0, pos := _, after := #[{ on := 0, ground := Go.Ground.data }], guard := none }) (v := ?vv32002) rfl (by kernel_rfl) (by kernel_rfl) (by kernel_rfl) (fun _ _ _ h => h) (Or.inl ⟨by rfl, ?hy32002⟩) (by assumption) ?tk32002
  case hy32002 => (intro w hSw; (try dsimp only at hSw); go_simp; (try with_reducible rfl))
  try simp only [Act.put, List.setIfInBounds_toArray, List.set_cons_zero, List.set_cons_succ]
  refine wpAnyH_take (i := 2) (oi := { dst := some 18, op := Go.Op.fieldAddr 102 (Go.Operand.tmp 17) 2, type := 0, pos := _, after := #[{ on := 1, ground := Go.Ground.data }], guard := none }) (v := ?vv32003) rfl (by kernel_rfl) (by kernel_rfl) (by kernel_rfl) (fun _ _ _ h => h) (Or.inl ⟨by rfl, ?hy32003⟩) (by assumption) ?tk32003
  case hy32003 => (intro w hSw; (try dsimp only at hSw); go_simp; (try with_reducible rfl))
  try simp only [Act.put, List.setIfInBounds_toArray, List.set_cons_zero, List.set_cons_succ]
  refine wpAnyH_take (i := 3) (oi := { dst := some 19, op := Go.Op.load 3 (Go.Operand.tmp 18), type := 3, pos := _, after := #[{ on := 2, ground := Go.Ground.data }], guard := none }) (v := ?vv32004) rfl (by kernel_rfl) (by kernel_rfl) (by kernel_rfl) (fun _ _ _ h => h) (Or.inl ⟨by rfl, ?hy32004⟩) (by assumption) ?tk32004
  case hy32004 => (intro w hSw; (try dsimp only at hSw); go_simp; (try with_reducible rfl))
  try simp only [Act.put, List.setIfInBounds_toArray, List.set_cons_zero, List.set_cons_succ]
  refine wpAnyH_take (i := 4) (oi := { dst := some 20, op := Go.Op.move (Go.Operand.tmp 2), type := 183, pos := _, after := #[], guard := none }) (v := ?vv32005) rfl (by kernel_rfl) (by kernel_rfl) (by kernel_rfl) (fun _ _ _ h => h) (Or.inl ⟨by rfl, ?hy32005⟩) (by assumption) ?tk32005
  case hy32005 => (intro w hSw; (try dsimp only at hSw); go_simp; (try with_reducible rfl))
  try simp only [Act.put, List.setIfInBounds_toArray, List.set_cons_zero, List.set_cons_succ]
  refine wpAnyH_take (i := 5) (oi := { dst := some 21, op := Go.Op.nilCheck (Go.Operand.tmp 20), type := 0, pos := _, after := #[{ on := 4, ground := Go.Ground.data }], guard := none }) (v := ?vv32006) rfl (by kernel_rfl) (by kernel_rfl) (by kernel_rfl) (fun _ _ _ h => h) (Or.inl ⟨by rfl, ?hy32006⟩) (by assumption) ?tk32006
  case hy32006 => (intro w hSw; (try dsimp only at hSw); go_simp; (try with_reducible rfl))
  try simp only [Act.put, List.setIfInBounds_toArray, List.set_cons_zero, List.set_cons_succ]
  refine wpAnyH_take (i := 6) (oi := { dst := some 22, op := Go.Op.fieldAddr 102 (Go.Operand.tmp 21) 1, type := 0, pos := _, after := #[{ on := 5, ground := Go.Ground.data }], guard := none }) (v := ?vv32007) rfl (by kernel_rfl) (by kernel_rfl) (by kernel_rfl) (fun _ _ _ h => h) (Or.inl ⟨by rfl, ?hy32007⟩) (by assumption) ?tk32007
  case hy32007 => (intro w hSw; (try dsimp only at hSw); go_simp; (try with_reducible rfl))
  try simp only [Act.put, List.setIfInBounds_toArray, List.set_cons_zero, List.set_cons_succ]
  refine wpAnyH_take (i := 7) (oi := { dst := some 23, op := Go.Op.load 3 (Go.Operand.tmp 22), type := 3, pos := _, after := #[{ on := 6, ground := Go.Ground.data }], guard := none }) (v := ?vv32008) rfl (by kernel_rfl) (by kernel_rfl) (by kernel_rfl) (fun _ _ _ h => h) (Or.inl ⟨by rfl, ?hy32008⟩) (by assumption) ?tk32008
  case hy32008 => (intro w hSw; (try dsimp only at hSw); go_simp; (try with_reducible rfl))
  try simp only [Act.put, List.setIfInBounds_toArray, List.set_cons_zero, List.set_cons_succ]
  refine wpAnyH_take (i := 8) (oi := { dst := some 24, op := Go.Op.binOp Go.BinOp.geq 3 (Go.Operand.tmp 19) (Go.Operand.tmp 23) 3, type := 4, pos := _, after := #[{ on := 3, ground := Go.Ground.data }, { on := 7, ground := Go.Ground.data }], guard := none }) (v := ?vv32009) rfl (by kernel_rfl) (by kernel_rfl) (by kernel_rfl) (fun _ _ _ h => h) (Or.inl ⟨by rfl, ?hy32009⟩) (by assumption) ?tk32009
  case hy32009 => (intro w hSw; (try dsimp only at hSw); go_simp; (try with_reducible rfl))
  try simp only [Act.put, List.setIfInBounds_toArray, List.set_cons_zero, List.set_cons_succ]
  refine wpAnyH_done (by kernel_rfl) ?_ _
  clear hHeld
  obtain ⟨wd, hwd⟩ : ∃ wd, w.drew = wd := ⟨_, rfl⟩
  have d0 : wd.cell? ⟨GC, k * 6, none⟩ = some (.int .i64 0) := by rw [← hwd]; exact c0
  have d1 : wd.cell? ⟨GC, k * 6 + 1, none⟩ = some (.int .i64 1) := by rw [← hwd]; exact c1
  have d2 : wd.cell? ⟨GC, k * 6 + 2, none⟩ = some (.int .i64 0) := by rw [← hwd]; exact c2
  have d4 : wd.cell? ⟨GC, k * 6 + 4, none⟩ = some (.int .i64 0) := by rw [← hwd]; exact c4
  have df : ∀ o, wd.frozen? ⟨GC, o, none⟩ = false := by rw [← hwd]; exact cf
  have dj : ∀ q o, wd.cell? ⟨q, o, none⟩ = w.cell? ⟨q, o, none⟩ := by rw [← hwd]; exact fun _ _ => rfl
  have dw : Wr GC w wd := by rw [← hwd]; exact (Wr.refl _ _).drew
  rw [hwd]
  have HX := hideIt (And.intro d0 (And.intro d1 (And.intro d4 (And.intro dj dw))))
  clear c0 c1 c2 c4 cf s3 d0 d1 d4 dj dw hwd
  go_wp2
  go_ret2
  obtain ⟨d0, d1, d4, dj, dw⟩ := HX.out
  exact ⟨rfl, ⟨(World.cell?_setCell_other _ _ _ _ (by simp <;> omega)).trans d0, (World.cell?_setCell_other _ _ _ _ (by simp <;> omega)).trans d1, World.cell?_setCell_same _ _ _ d2, (World.cell?_setCell_other _ _ _ _ (by simp <;> omega)).trans d4⟩, fun j hj i hi => (cur_other hj (by omega) hi).trans (dj _ _), fun o => (World.frozen?_setCell _ _ _ _).trans (df o), dw.set⟩
set_option maxRecDepth 20000 in
set_option maxHeartbeats 8000000 in
theorem cand_scan_end {w : World} {GC gs k : Nat} {ρ : Rl} {kv av ev : Value} (St : StX w gs k ρ false kv av) (C : CurO w GC k 1) (cf : ∀ o, w.frozen? ⟨GC, o, none⟩ = false) (hne : GC ≠ gs) (hk : k ≤ 100) :
    Calls Try.prog 75 #[ev, .pointer (some ⟨gs, k * 8, none⟩), .pointer (some ⟨GC, k * 6, none⟩)] w fun e w' => e = .returned (.tuple #[.int .i64 0, .bool false]) ∧ CurO w' GC k 1 ∧ (∀ j, j ≠ k → ∀ i, i < 6 → w'.cell? ⟨GC, j * 6 + i, none⟩ = w.cell? ⟨GC, j * 6 + i, none⟩) ∧ (∀ o, w'.frozen? ⟨GC, o, none⟩ = false) ∧ Wr GC w w' := by
  have c0 := C.c0
  have c1 := C.c1
  have c2 := C.c2
  have c4 := C.c4
  have s3 : w.cell? ⟨gs, k * 8 + 3, none⟩ = some (.int .u8 0) := St.s3
  clear St C
  go_enter Try.func75, Try.ntmps75
  go_upto_region 3 with fail
  refine wp_region_held_drew (S := (fun w' => w'.cell? ⟨GC, k * 6 + 2, none⟩ = some (.int .i64 1) ∧ w'.cell? ⟨GC, k * 6 + 1, none⟩ = some (.int .i64 1))) (by kernel_rfl) ⟨c2, c1⟩ (fun hHeld => ?_)
  refine wpAnyH_take (i := 0) (oi := { dst := some 16, op := Go.Op.move (Go.Operand.tmp 2), type := 183, pos := _, after := #[], guard := none }) (v := ?vv32010) rfl (by kernel_rfl) (by kernel_rfl) (by kernel_rfl) (fun _ _ _ h => h) (Or.inl ⟨by rfl, ?hy32010⟩) (by assumption) ?tk32010
  case hy32010 => (intro w hSw; (try dsimp only at hSw); go_simp; (try with_reducible rfl))
  try simp only [Act.put, List.setIfInBounds_toArray, List.set_cons_zero, List.set_cons_succ]
  refine wpAnyH_take (i := 1) (oi := { dst := some 17, op := Go.Op.nilCheck (Go.Operand.tmp 16), type := 0, pos := _, after := #[{ on := 0, ground := Go.Ground.data }], guard := none }) (v := ?vv32011) rfl (by kernel_rfl) (by kernel_rfl) (by kernel_rfl) (fun _ _ _ h => h) (Or.inl ⟨by rfl, ?hy32011⟩) (by assumption) ?tk32011
  case hy32011 => (intro w hSw; (try dsimp only at hSw); go_simp; (try with_reducible rfl))
  try simp only [Act.put, List.setIfInBounds_toArray, List.set_cons_zero, List.set_cons_succ]
  refine wpAnyH_take (i := 2) (oi := { dst := some 18, op := Go.Op.fieldAddr 102 (Go.Operand.tmp 17) 2, type := 0, pos := _, after := #[{ on := 1, ground := Go.Ground.data }], guard := none }) (v := ?vv32012) rfl (by kernel_rfl) (by kernel_rfl) (by kernel_rfl) (fun _ _ _ h => h) (Or.inl ⟨by rfl, ?hy32012⟩) (by assumption) ?tk32012
  case hy32012 => (intro w hSw; (try dsimp only at hSw); go_simp; (try with_reducible rfl))
  try simp only [Act.put, List.setIfInBounds_toArray, List.set_cons_zero, List.set_cons_succ]
  refine wpAnyH_take (i := 3) (oi := { dst := some 19, op := Go.Op.load 3 (Go.Operand.tmp 18), type := 3, pos := _, after := #[{ on := 2, ground := Go.Ground.data }], guard := none }) (v := ?vv32013) rfl (by kernel_rfl) (by kernel_rfl) (by kernel_rfl) (fun _ _ _ h => h) (Or.inl ⟨by rfl, ?hy32013⟩) (by assumption) ?tk32013
  case hy32013 => (intro w hSw; (try dsimp only at hSw); go_simp; (try with_reducible rfl))
  try simp only [Act.put, List.setIfInBounds_toArray, List.set_cons_zero, List.set_cons_succ]
  refine wpAnyH_take (i := 4) (oi := { dst := some 20, op := Go.Op.move (Go.Operand.tmp 2), type := 183, pos := _, after := #[], guard := none }) (v := ?vv32014) rfl (by kernel_rfl) (by kernel_rfl) (by kernel_rfl) (fun _ _ _ h => h) (Or.inl ⟨by rfl, ?hy32014⟩) (by assumption) ?tk32014
  case hy32014 => (intro w hSw; (try dsimp only at hSw); go_simp; (try with_reducible rfl))
  try simp only [Act.put, List.setIfInBounds_toArray, List.set_cons_zero, List.set_cons_succ]
  refine wpAnyH_take (i := 5) (oi := { dst := some 21, op := Go.Op.nilCheck (Go.Operand.tmp 20), type := 0, pos := _, after := #[{ on := 4, ground := Go.Ground.data }], guard := none }) (v := ?vv32015) rfl (by kernel_rfl) (by kernel_rfl) (by kernel_rfl) (fun _ _ _ h => h) (Or.inl ⟨by rfl, ?hy32015⟩) (by assumption) ?tk32015
  case hy32015 => (intro w hSw; (try dsimp only at hSw); go_simp; (try with_reducible rfl))
  try simp only [Act.put, List.setIfInBounds_toArray, List.set_cons_zero, List.set_cons_succ]
  refine wpAnyH_take (i := 6) (oi := { dst := some 22, op := Go.Op.fieldAddr 102 (Go.Operand.tmp 21) 1, type := 0, pos := _, after := #[{ on := 5, ground := Go.Ground.data }], guard := none }) (v := ?vv32016) rfl (by kernel_rfl) (by kernel_rfl) (by kernel_rfl) (fun _ _ _ h => h) (Or.inl ⟨by rfl, ?hy32016⟩) (by assumption) ?tk32016
  case hy32016 => (intro w hSw; (try dsimp only at hSw); go_simp; (try with_reducible rfl))
  try simp only [Act.put, List.setIfInBounds_toArray, List.set_cons_zero, List.set_cons_succ]
  refine wpAnyH_take (i := 7) (oi := { dst := some 23, op := Go.Op.load 3 (Go.Operand.tmp 22), type := 3, pos := _, after := #[{ on := 6, ground := Go.Ground.data }], guard := none }) (v := ?vv32017) rfl (by kernel_rfl) (by kernel_rfl) (by kernel_rfl) (fun _ _ _ h => h) (Or.inl ⟨by rfl, ?hy32017⟩) (by assumption) ?tk32017
  case hy32017 => (intro w hSw; (try dsimp only at hSw); go_simp; (try with_reducible rfl))
  try simp only [Act.put, List.setIfInBounds_toArray, List.set_cons_zero, List.set_cons_succ]
  refine wpAnyH_take (i := 8) (oi := { dst := some 24, op := Go.Op.binOp Go.BinOp.geq 3 (Go.Operand.tmp 19) (Go.Operand.tmp 23) 3, type := 4, pos := _, after := #[{ on := 3, ground := Go.Ground.data }, { on := 7, ground := Go.Ground.data }], guard := none }) (v := ?vv32018) rfl (by kernel_rfl) (by kernel_rfl) (by kernel_rfl) (fun _ _ _ h => h) (Or.inl ⟨by rfl, ?hy32018⟩) (by assumption) ?tk32018
  case hy32018 => (intro w hSw; (try dsimp only at hSw); go_simp; (try with_reducible rfl))
  try simp only [Act.put, List.setIfInBounds_toArray, List.set_cons_zero, List.set_cons_succ]
  refine wpAnyH_done (by kernel_rfl) ?_ _
  clear hHeld
  go_wp2
  go_ret2
  exact ⟨rfl, ⟨c0, c1, c2, c4⟩, fun _ _ _ _ => rfl, cf, (Wr.refl _ _).drew⟩
set_option maxRecDepth 20000 in
set_option maxHeartbeats 8000000 in
theorem cand_look {w : World} {GC gs k : Nat} {ρ : Rl} {kv av ev : Value} (St : StX w gs k ρ true kv av) (C : CurO w GC k 0) (cf : ∀ o, w.frozen? ⟨GC, o, none⟩ = false) (hne : GC ≠ gs) (hk : k ≤ 100) :
    Calls Try.prog 75 #[ev, .pointer (some ⟨gs, k * 8, none⟩), .pointer (some ⟨GC, k * 6, none⟩)] w fun e w' => e = .returned (.tuple #[.int .i64 0, .bool true]) ∧ CurO w' GC k (-1) ∧ (∀ j, j ≠ k → ∀ i, i < 6 → w'.cell? ⟨GC, j * 6 + i, none⟩ = w.cell? ⟨GC, j * 6 + i, none⟩) ∧ (∀ o, w'.frozen? ⟨GC, o, none⟩ = false) ∧ Wr GC w w' := by
  have c0 := C.c0
  have c1 := C.c1
  have c2 := C.c2
  have c4 := C.c4
  have s3 : w.cell? ⟨gs, k * 8 + 3, none⟩ = some (.int .u8 2) := St.s3
  clear St C
  have hne' : ¬ (gs = GC) := fun e => hne e.symm
  have HX := hideIt (And.intro c4 (And.intro c2 cf))
  have e0 : (w.setCell ⟨GC, k * 6 + 2, none⟩ (.int .i64 (-1))).cell? ⟨GC, k * 6, none⟩ = some (.int .i64 0) := (World.cell?_setCell_other _ _ _ _ (by simp <;> omega)).trans c0
  have e1 : (w.setCell ⟨GC, k * 6 + 2, none⟩ (.int .i64 (-1))).cell? ⟨GC, k * 6 + 1, none⟩ = some (.int .i64 1) := (World.cell?_setCell_other _ _ _ _ (by simp <;> omega)).trans c1
  clear c0 c1 c4
  have c0 := e0
  have c1 := e1
  have HE := hideIt (And.intro e0 e1)
  clear e0 e1
  go_enter Try.func75, Try.ntmps75
  go_upto_region 10 with fail
  refine wp_region_held_drew (S := (fun w' => w'.cell? ⟨GC, k * 6, none⟩ = some (.int .i64 0) ∧ w'.cell? ⟨GC, k * 6 + 1, none⟩ = some (.int .i64 1))) (by kernel_rfl) ⟨c0, c1⟩ (fun hHeld => ?_)
  refine wpAnyH_take (i := 0) (oi := { dst := some 46, op := Go.Op.move (Go.Operand.tmp 8), type := 3, pos := _, after := #[], guard := none }) (v := ?vv32019) rfl (by kernel_rfl) (by kernel_rfl) (by kernel_rfl) (fun _ _ _ h => h) (Or.inl ⟨by rfl, ?hy32019⟩) (by assumption) ?tk32019
  case hy32019 => (intro w hSw; (try dsimp only at hSw); go_simp; (try with_reducible rfl))
  try simp only [Act.put, List.setIfInBounds_toArray, List.set_cons_zero, List.set_cons_succ]
  refine wpAnyH_take (i := 1) (oi := { dst := some 47, op := Go.Op.move (Go.Operand.tmp 2), type := 183, pos := _, after := #[], guard := none }) (v := ?vv32020) rfl (by kernel_rfl) (by kernel_rfl) (by kernel_rfl) (fun _ _ _ h => h) (Or.inl ⟨by rfl, ?hy32020⟩) (by assumption) ?tk32020
  case hy32020 => (intro w hSw; (try dsimp only at hSw); go_simp; (try with_reducible rfl))
  try simp only [Act.put, List.setIfInBounds_toArray, List.set_cons_zero, List.set_cons_succ]
  refine wpAnyH_take (i := 2) (oi := { dst := some 48, op := Go.Op.nilCheck (Go.Operand.tmp 47), type := 0, pos := _, after := #[{ on := 1, ground := Go.Ground.data }], guard := none }) (v := ?vv32021) rfl (by kernel_rfl) (by kernel_rfl) (by kernel_rfl) (fun _ _ _ h => h) (Or.inl ⟨by rfl, ?hy32021⟩) (by assumption) ?tk32021
  case hy32021 => (intro w hSw; (try dsimp only at hSw); go_simp; (try with_reducible rfl))
  try simp only [Act.put, List.setIfInBounds_toArray, List.set_cons_zero, List.set_cons_succ]
  refine wpAnyH_take (i := 3) (oi := { dst := some 49, op := Go.Op.fieldAddr 102 (Go.Operand.tmp 48) 0, type := 0, pos := _, after := #[{ on := 2, ground := Go.Ground.data }], guard := none }) (v := ?vv32022) rfl (by kernel_rfl) (by kernel_rfl) (by kernel_rfl) (fun _ _ _ h => h) (Or.inl ⟨by rfl, ?hy32022⟩) (by assumption) ?tk32022
  case hy32022 => (intro w hSw; (try dsimp only at hSw); go_simp; (try with_reducible rfl))
  try simp only [Act.put, List.setIfInBounds_toArray, List.set_cons_zero, List.set_cons_succ]
  refine wpAnyH_take (i := 4) (oi := { dst := some 50, op := Go.Op.load 3 (Go.Operand.tmp 49), type := 3, pos := _, after := #[{ on := 3, ground := Go.Ground.data }], guard := none }) (v := ?vv32023) rfl (by kernel_rfl) (by kernel_rfl) (by kernel_rfl) (fun _ _ _ h => h) (Or.inl ⟨by rfl, ?hy32023⟩) (by assumption) ?tk32023
  case hy32023 => (intro w hSw; (try dsimp only at hSw); go_simp; (try with_reducible rfl))
  try simp only [Act.put, List.setIfInBounds_toArray, List.set_cons_zero, List.set_cons_succ]
  refine wpAnyH_take (i := 5) (oi := { dst := some 51, op := Go.Op.move (Go.Operand.tmp 8), type := 3, pos := _, after := #[], guard := none }) (v := ?vv32024) rfl (by kernel_rfl) (by kernel_rfl) (by kernel_rfl) (fun _ _ _ h => h) (Or.inl ⟨by rfl, ?hy32024⟩) (by assumption) ?tk32024
  case hy32024 => (intro w hSw; (try dsimp only at hSw); go_simp; (try with_reducible rfl))
  try simp only [Act.put, List.setIfInBounds_toArray, List.set_cons_zero, List.set_cons_succ]
  refine wpAnyH_take (i := 6) (oi := { dst := some 52, op := Go.Op.binOp Go.BinOp.leq 3 (Go.Operand.tmp 50) (Go.Operand.tmp 51) 3, type := 4, pos := _, after := #[{ on := 4, ground := Go.Ground.data }, { on := 5, ground := Go.Ground.data }], guard := none }) (v := ?vv32025) rfl (by kernel_rfl) (by kernel_rfl) (by kernel_rfl) (fun _ _ _ h => h) (Or.inl ⟨by rfl, ?hy32025⟩) (by assumption) ?tk32025
  case hy32025 => (intro w hSw; (try dsimp only at hSw); go_simp; (try with_reducible rfl))
  try simp only [Act.put, List.setIfInBounds_toArray, List.set_cons_zero, List.set_cons_succ]
  refine wpAnyH_take (i := 7) (oi := { dst := some 53, op := Go.Op.move (Go.Operand.tmp 52), type := 4, pos := _, after := #[{ on := 6, ground := Go.Ground.data }], guard := none }) (v := ?vv32026) rfl (by kernel_rfl) (by kernel_rfl) (by kernel_rfl) (fun _ _ _ h => h) (Or.inl ⟨by rfl, ?hy32026⟩) (by assumption) ?tk32026
  case hy32026 => (intro w hSw; (try dsimp only at hSw); go_simp; (try with_reducible rfl))
  try simp only [Act.put, List.setIfInBounds_toArray, List.set_cons_zero, List.set_cons_succ]
  refine wpAnyH_take (i := 8) (oi := { dst := some 54, op := Go.Op.move (Go.Operand.tmp 8), type := 3, pos := _, after := #[{ on := 7, ground := Go.Ground.guard }, { on := 15, ground := Go.Ground.gcOnly Go.Departure.lateStores }], guard := some (7, true) }) (v := ?vv32027) rfl (by kernel_rfl) (by kernel_rfl) (by kernel_rfl) (fun _ _ _ h => h) (Or.inl ⟨by rfl, ?hy32027⟩) (by assumption) ?tk32027
  case hy32027 => (intro w hSw; (try dsimp only at hSw); go_simp; (try with_reducible rfl))
  try simp only [Act.put, List.setIfInBounds_toArray, List.set_cons_zero, List.set_cons_succ]
  refine wpAnyH_take (i := 9) (oi := { dst := some 55, op := Go.Op.move (Go.Operand.tmp 2), type := 183, pos := _, after := #[{ on := 7, ground := Go.Ground.guard }, { on := 15, ground := Go.Ground.gcOnly Go.Departure.lateStores }], guard := some (7, true) }) (v := ?vv32028) rfl (by kernel_rfl) (by kernel_rfl) (by kernel_rfl) (fun _ _ _ h => h) (Or.inl ⟨by rfl, ?hy32028⟩) (by assumption) ?tk32028
  case hy32028 => (intro w hSw; (try dsimp only at hSw); go_simp; (try with_reducible rfl))
  try simp only [Act.put, List.setIfInBounds_toArray, List.set_cons_zero, List.set_cons_succ]
  refine wpAnyH_take (i := 10) (oi := { dst := some 56, op := Go.Op.nilCheck (Go.Operand.tmp 55), type := 0, pos := _, after := #[{ on := 9, ground := Go.Ground.data }, { on := 7, ground := Go.Ground.guard }, { on := 15, ground := Go.Ground.gcOnly Go.Departure.lateStores }], guard := some (7, true) }) (v := ?vv32029) rfl (by kernel_rfl) (by kernel_rfl) (by kernel_rfl) (fun _ _ _ h => h) (Or.inl ⟨by rfl, ?hy32029⟩) (by assumption) ?tk32029
  case hy32029 => (intro w hSw; (try dsimp only at hSw); go_simp; (try with_reducible rfl))
  try simp only [Act.put, List.setIfInBounds_toArray, List.set_cons_zero, List.set_cons_succ]
  refine wpAnyH_take (i := 11) (oi := { dst := some 57, op := Go.Op.fieldAddr 102 (Go.Operand.tmp 56) 1, type := 0, pos := _, after := #[{ on := 10, ground := Go.Ground.data }, { on := 7, ground := Go.Ground.guard }, { on := 15, ground := Go.Ground.gcOnly Go.Departure.lateStores }], guard := some (7, true) }) (v := ?vv32030) rfl (by kernel_rfl) (by kernel_rfl) (by kernel_rfl) (fun _ _ _ h => h) (Or.inl ⟨by rfl, ?hy32030⟩) (by assumption) ?tk32030
  case hy32030 => (intro w hSw; (try dsimp only at hSw); go_simp; (try with_reducible rfl))
  try simp only [Act.put, List.setIfInBounds_toArray, List.set_cons_zero, List.set_cons_succ]
  refine wpAnyH_take (i := 12) (oi := { dst := some 58, op := Go.Op.load 3 (Go.Operand.tmp 57), type := 3, pos := _, after := #[{ on := 11, ground := Go.Ground.data }, { on := 7, ground := Go.Ground.guard }, { on := 15, ground := Go.Ground.gcOnly Go.Departure.lateStores }], guard := some (7, true) }) (v := ?vv32031) rfl (by kernel_rfl) (by kernel_rfl) (by kernel_rfl) (fun _ _ _ h => h) (Or.inl ⟨by rfl, ?hy32031⟩) (by assumption) ?tk32031
  case hy32031 => (intro w hSw; (try dsimp only at hSw); go_simp; (try with_reducible rfl))
  try simp only [Act.put, List.setIfInBounds_toArray, List.set_cons_zero, List.set_cons_succ]
  refine wpAnyH_take (i := 13) (oi := { dst := some 59, op := Go.Op.binOp Go.BinOp.lss 3 (Go.Operand.tmp 54) (Go.Operand.tmp 58) 3, type := 4, pos := _, after := #[{ on := 8, ground := Go.Ground.data }, { on := 12, ground := Go.Ground.data }, { on := 7, ground := Go.Ground.guard }, { on := 15, ground := Go.Ground.gcOnly Go.Departure.lateStores }], guard := some (7, true) }) (v := ?vv32032) rfl (by kernel_rfl) (by kernel_rfl) (by kernel_rfl) (fun _ _ _ h => h) (Or.inl ⟨by rfl, ?hy32032⟩) (by assumption) ?tk32032
  case hy32032 => (intro w hSw; (try dsimp only at hSw); go_simp; (try with_reducible rfl))
  try simp only [Act.put, List.setIfInBounds_toArray, List.set_cons_zero, List.set_cons_succ]
  refine wpAnyH_take (i := 14) (oi := { dst := some 60, op := Go.Op.pick (Go.Operand.tmp 53) (Go.Operand.tmp 59) (Go.Operand.const (Go.Value.bool false)), type := 4, pos := _, after := #[{ on := 7, ground := Go.Ground.data }, { on := 13, ground := Go.Ground.data }, { on := 15, ground := Go.Ground.gcOnly Go.Departure.lateStores }], guard := none }) (v := ?vv32033) rfl (by kernel_rfl) (by kernel_rfl) (by kernel_rfl) (fun _ _ _ h => h) (Or.inl ⟨by rfl, ?hy32033⟩) (by assumption) ?tk32033
  case hy32033 => (intro w hSw; (try dsimp only at hSw); go_simp; (try with_reducible rfl))
  try simp only [Act.put, List.setIfInBounds_toArray, List.set_cons_zero, List.set_cons_succ]
  refine wpAnyH_take (i := 15) (oi := { dst := some 6, op := Go.Op.assign (Go.Operand.tmp 46), type := 3, pos := _, after := #[{ on := 0, ground := Go.Ground.data }, { on := 7, ground := Go.Ground.chain }, { on := 0, ground := Go.Ground.phase }, { on := 1, ground := Go.Ground.textOnly Go.Departure.lateStores }, { on := 2, ground := Go.Ground.textOnly Go.Departure.lateStores }, { on := 3, ground := Go.Ground.textOnly Go.Departure.lateStores }, { on := 4, ground := Go.Ground.textOnly Go.Departure.lateStores }, { on := 5, ground := Go.Ground.textOnly Go.Departure.lateStores }, { on := 6, ground := Go.Ground.textOnly Go.Departure.lateStores }, { on := 7, ground := Go.Ground.textOnly Go.Departure.lateStores }, { on := 8, ground := Go.Ground.textOnly Go.Departure.lateStores }, { on := 9, ground := Go.Ground.textOnly Go.Departure.lateStores }, { on := 10, ground := Go.Ground.textOnly Go.Departure.lateStores }, { on := 11, ground := Go.Ground.textOnly Go.Departure.lateStores }, { on := 12, ground := Go.Ground.textOnly Go.Departure.lateStores }, { on := 13, ground := Go.Ground.textOnly Go.Departure.lateStores }, { on := 14, ground := Go.Ground.textOnly Go.Departure.lateStores }], guard := none }) (v := ?vv32034) rfl (by kernel_rfl) (by kernel_rfl) (by kernel_rfl) (fun _ _ _ h => h) (Or.inl ⟨by rfl, ?hy32034⟩) (by assumption) ?tk32034
  case hy32034 => (intro w hSw; (try dsimp only at hSw); go_simp; (try with_reducible rfl))
  try simp only [Act.put, List.setIfInBounds_toArray, List.set_cons_zero, List.set_cons_succ]
  refine wpAnyH_take (i := 16) (oi := { dst := some 7, op := Go.Op.assign (Go.Operand.tmp 60), type := 4, pos := _, after := #[{ on := 14, ground := Go.Ground.data }, { on := 15, ground := Go.Ground.chain }, { on := 0, ground := Go.Ground.phase }, { on := 1, ground := Go.Ground.phase }, { on := 2, ground := Go.Ground.phase }, { on := 3, ground := Go.Ground.phase }, { on := 4, ground := Go.Ground.phase }, { on := 5, ground := Go.Ground.phase }, { on := 6, ground := Go.Ground.phase }, { on := 7, ground := Go.Ground.phase }, { on := 8, ground := Go.Ground.phase }, { on := 9, ground := Go.Ground.phase }, { on := 10, ground := Go.Ground.phase }, { on := 11, ground := Go.Ground.phase }, { on := 12, ground := Go.Ground.phase }, { on := 13, ground := Go.Ground.phase }, { on := 14, ground := Go.Ground.phase }, { on := 15, ground := Go.Ground.phase }], guard := none }) (v := ?vv32035) rfl (by kernel_rfl) (by kernel_rfl) (by kernel_rfl) (fun _ _ _ h => h) (Or.inl ⟨by rfl, ?hy32035⟩) (by assumption) ?tk32035
  case hy32035 => (intro w hSw; (try dsimp only at hSw); go_simp; (try with_reducible rfl))
  try simp only [Act.put, List.setIfInBounds_toArray, List.set_cons_zero, List.set_cons_succ]
  refine wpAnyH_done (by kernel_rfl) ?_ _
  clear hHeld
  generalize hww : (w.setCell ⟨GC, k * 6 + 2, none⟩ (.int .i64 (-1))).drew = wd
  have HWW := hideIt hww
  clear hww
  go_wp2
  go_ret2
  obtain ⟨c4, c2, cf⟩ := HX.out
  obtain ⟨e0, e1⟩ := HE.out
  rw [← HWW.out]
  exact ⟨rfl, ⟨e0, e1, World.cell?_setCell_same _ _ _ c2, (World.cell?_setCell_other _ _ _ _ (by simp <;> omega)).trans c4⟩, fun j hj i hi => cur_other hj (by omega) hi, fun o => (World.frozen?_setCell _ _ _ _).trans (cf o), (Wr.refl _ _).set.drew⟩
set_option maxRecDepth 20000 in
set_option maxHeartbeats 8000000 in
theorem cand_look_end {w : World} {GC gs k : Nat} {ρ : Rl} {kv av ev : Value} (St : StX w gs k ρ true kv av) (C : CurO w GC k (-1)) (cf : ∀ o, w.frozen? ⟨GC, o, none⟩ = false) (hne : GC ≠ gs) (hk : k ≤ 100) :
    Calls Try.prog 75 #[ev, .pointer (some ⟨gs, k * 8, none⟩), .pointer (some ⟨GC, k * 6, none⟩)] w fun e w' => e = .returned (.tuple #[.int .i64 (-1), .bool false]) ∧ CurO w' GC k (-1) ∧ (∀ j, j ≠ k → ∀ i, i < 6 → w'.cell? ⟨GC, j * 6 + i, none⟩ = w.cell? ⟨GC, j * 6 + i, none⟩) ∧ (∀ o, w'.frozen? ⟨GC, o, none⟩ = false) ∧ Wr GC w w' := by
  have c0 := C.c0
  have c1 := C.c1
  have c2 := C.c2
  have c4 := C.c4
  have s3 : w.cell? ⟨gs, k * 8 + 3, none⟩ = some (.int .u8 2) := St.s3
  clear St C
  have hne' : ¬ (gs = GC) := fun e => hne e.symm
  have HX := hideIt (And.intro c4 (And.intro c2 cf))
  have e0 : (w.setCell ⟨GC, k * 6 + 2, none⟩ (.int .i64 (-1))).cell? ⟨GC, k * 6, none⟩ = some (.int .i64 0) := (World.cell?_setCell_other _ _ _ _ (by simp <;> omega)).trans c0
  have e1 : (w.setCell ⟨GC, k * 6 + 2, none⟩ (.int .i64 (-1))).cell? ⟨GC, k * 6 + 1, none⟩ = some (.int .i64 1) := (World.cell?_setCell_other _ _ _ _ (by simp <;> omega)).trans c1
  clear c0 c1 c4
  have c0 := e0
  have c1 := e1
  have HE := hideIt (And.intro e0 e1)
  clear e0 e1
  go_enter Try.func75, Try.ntmps75
  go_upto_region 10 with fail
  refine wp_region_held_drew (S := (fun w' => w'.cell? ⟨GC, k * 6, none⟩ = some (.int .i64 0) ∧ w'.cell? ⟨GC, k * 6 + 1, none⟩ = some (.int .i64 1))) (by kernel_rfl) ⟨c0, c1⟩ (fun hHeld => ?_)
  refine wpAnyH_take (i := 0) (oi := { dst := some 46, op := Go.Op.move (Go.Operand.tmp 8), type := 3, pos := _, after := #[], guard := none }) (v := ?vv32036) rfl (by kernel_rfl) (by kernel_rfl) (by kernel_rfl) (fun _ _ _ h => h) (Or.inl ⟨by rfl, ?hy32036⟩) (by assumption) ?tk32036
  case hy32036 => (intro w hSw; (try dsimp only at hSw); go_simp; (try with_reducible rfl))
  try simp only [Act.put, List.setIfInBounds_toArray, List.set_cons_zero, List.set_cons_succ]
  refine wpAnyH_take (i := 1) (oi := { dst := some 47, op := Go.Op.move (Go.Operand.tmp 2), type := 183, pos := _, after := #[], guard := none }) (v := ?vv32037) rfl (by kernel_rfl) (by kernel_rfl) (by kernel_rfl) (fun _ _ _ h => h) (Or.inl ⟨by rfl, ?hy32037⟩) (by assumption) ?tk32037
  case hy32037 => (intro w hSw; (try dsimp only at hSw); go_simp; (try with_reducible rfl))
  try simp only [Act.put, List.setIfInBounds_toArray, List.set_cons_zero, List.set_cons_succ]
  refine wpAnyH_take (i := 2) (oi := { dst := some 48, op := Go.Op.nilCheck (Go.Operand.tmp 47), type := 0, pos := _, after := #[{ on := 1, ground := Go.Ground.data }], guard := none }) (v := ?vv32038) rfl (by kernel_rfl) (by kernel_rfl) (by kernel_rfl) (fun _ _ _ h => h) (Or.inl ⟨by rfl, ?hy32038⟩) (by assumption) ?tk32038
  case hy32038 => (intro w hSw; (try dsimp only at hSw); go_simp; (try with_reducible rfl))
  try simp only [Act.put, List.setIfInBounds_toArray, List.set_cons_zero, List.set_cons_succ]
  refine wpAnyH_take (i := 3) (oi := { dst := some 49, op := Go.Op.fieldAddr 102 (Go.Operand.tmp 48) 0, type := 0, pos := _, after := #[{ on := 2, ground := Go.Ground.data }], guard := none }) (v := ?vv32039) rfl (by kernel_rfl) (by kernel_rfl) (by kernel_rfl) (fun _ _ _ h => h) (Or.inl ⟨by rfl, ?hy32039⟩) (by assumption) ?tk32039
  case hy32039 => (intro w hSw; (try dsimp only at hSw); go_simp; (try with_reducible rfl))
  try simp only [Act.put, List.setIfInBounds_toArray, List.set_cons_zero, List.set_cons_succ]
  refine wpAnyH_take (i := 4) (oi := { dst := some 50, op := Go.Op.load 3 (Go.Operand.tmp 49), type := 3, pos := _, after := #[{ on := 3, ground := Go.Ground.data }], guard := none }) (v := ?vv32040) rfl (by kernel_rfl) (by kernel_rfl) (by kernel_rfl) (fun _ _ _ h => h) (Or.inl ⟨by rfl, ?hy32040⟩) (by assumption) ?tk32040
  case hy32040 => (intro w hSw; (try dsimp only at hSw); go_simp; (try with_reducible rfl))
  try simp only [Act.put, List.setIfInBounds_toArray, List.set_cons_zero, List.set_cons_succ]
  refine wpAnyH_take (i := 5) (oi := { dst := some 51, op := Go.Op.move (Go.Operand.tmp 8), type := 3, pos := _, after := #[], guard := none }) (v := ?vv32041) rfl (by kernel_rfl) (by kernel_rfl) (by kernel_rfl) (fun _ _ _ h => h) (Or.inl ⟨by rfl, ?hy32041⟩) (by assumption) ?tk32041
  case hy32041 => (intro w hSw; (try dsimp only at hSw); go_simp; (try with_reducible rfl))
  try simp only [Act.put, List.setIfInBounds_toArray, List.set_cons_zero, List.set_cons_succ]
  refine wpAnyH_take (i := 6) (oi := { dst := some 52, op := Go.Op.binOp Go.BinOp.leq 3 (Go.Operand.tmp 50) (Go.Operand.tmp 51) 3, type := 4, pos := _, after := #[{ on := 4, ground := Go.Ground.data }, { on := 5, ground := Go.Ground.data }], guard := none }) (v := ?vv32042) rfl (by kernel_rfl) (by kernel_rfl) (by kernel_rfl) (fun _ _ _ h => h) (Or.inl ⟨by rfl, ?hy32042⟩) (by assumption) ?tk32042
  case hy32042 => (intro w hSw; (try dsimp only at hSw); go_simp; (try with_reducible rfl))
  try simp only [Act.put, List.setIfInBounds_toArray, List.set_cons_zero, List.set_cons_succ]
  refine wpAnyH_take (i := 7) (oi := { dst := some 53, op := Go.Op.move (Go.Operand.tmp 52), type := 4, pos := _, after := #[{ on := 6, ground := Go.Ground.data }], guard := none }) (v := ?vv32043) rfl (by kernel_rfl) (by kernel_rfl) (by kernel_rfl) (fun _ _ _ h => h) (Or.inl ⟨by rfl, ?hy32043⟩) (by assumption) ?tk32043
  case hy32043 => (intro w hSw; (try dsimp only at hSw); go_simp; (try with_reducible rfl))
  try simp only [Act.put, List.setIfInBounds_toArray, List.set_cons_zero, List.set_cons_succ]
  refine wpAnyH_take (i := 8) (oi := { dst := some 54, op := Go.Op.move (Go.Operand.tmp 8), type := 3, pos := _, after := #[{ on := 7, ground := Go.Ground.guard }, { on := 15, ground := Go.Ground.gcOnly Go.Departure.lateStores }], guard := some (7, true) }) (v := undef) rfl (by kernel_rfl) (by kernel_rfl) (by kernel_rfl) (fun _ _ _ h => h) (Or.inr ⟨by rfl, rfl⟩) (by assumption) ?tk32044
  try simp only [Act.put, List.setIfInBounds_toArray, List.set_cons_zero, List.set_cons_succ]
  refine wpAnyH_take (i := 9) (oi := { dst := some 55, op := Go.Op.move (Go.Operand.tmp 2), type := 183, pos := _, after := #[{ on := 7, ground := Go.Ground.guard }, { on := 15, ground := Go.Ground.gcOnly Go.Departure.lateStores }], guard := some (7, true) }) (v := undef) rfl (by kernel_rfl) (by kernel_rfl) (by kernel_rfl) (fun _ _ _ h => h) (Or.inr ⟨by rfl, rfl⟩) (by assumption) ?tk32045
  try simp only [Act.put, List.setIfInBounds_toArray, List.set_cons_zero, List.set_cons_succ]
  refine wpAnyH_take (i := 10) (oi := { dst := some 56, op := Go.Op.nilCheck (Go.Operand.tmp 55), type := 0, pos := _, after := #[{ on := 9, ground := Go.Ground.data }, { on := 7, ground := Go.Ground.guard }, { on := 15, ground := Go.Ground.gcOnly Go.Departure.lateStores }], guard := some (7, true) }) (v := undef) rfl (by kernel_rfl) (by kernel_rfl) (by kernel_rfl) (fun _ _ _ h => h) (Or.inr ⟨by rfl, rfl⟩) (by assumption) ?tk32046
  try simp only [Act.put, List.setIfInBounds_toArray, List.set_cons_zero, List.set_cons_succ]
  refine wpAnyH_take (i := 11) (oi := { dst := some 57, op := Go.Op.fieldAddr 102 (Go.Operand.tmp 56) 1, type := 0, pos := _, after := #[{ on := 10, ground := Go.Ground.data }, { on := 7, ground := Go.Ground.guard }, { on := 15, ground := Go.Ground.gcOnly Go.Departure.lateStores }], guard := some (7, true) }) (v := undef) rfl (by kernel_rfl) (by kernel_rfl) (by kernel_rfl) (fun _ _ _ h => h) (Or.inr ⟨by rfl, rfl⟩) (by assumption) ?tk32047
  try simp only [Act.put, List.setIfInBounds_toArray, List.set_cons_zero, List.set_cons_succ]
  refine wpAnyH_take (i := 12) (oi := { dst := some 58, op := Go.Op.load 3 (Go.Operand.tmp 57), type := 3, pos := _, after := #[{ on := 11, ground := Go.Ground.data }, { on := 7, ground := Go.Ground.guard }, { on := 15, ground := Go.Ground.gcOnly Go.Departure.lateStores }], guard := some (7, true) }) (v := undef) rfl (by kernel_rfl) (by kernel_rfl) (by kernel_rfl) (fun _ _ _ h => h) (Or.inr ⟨by rfl, rfl⟩) (by assumption) ?tk32048
  try simp only [Act.put, List.setIfInBounds_toArray, List.set_cons_zero, List.set_cons_succ]
  refine wpAnyH_take (i := 13) (oi := { dst := some 59, op := Go.Op.binOp Go.BinOp.lss 3 (Go.Operand.tmp 54) (Go.Operand.tmp 58) 3, type := 4, pos := _, after := #[{ on := 8, ground := Go.Ground.data }, { on := 12, ground := Go.Ground.data }, { on := 7, ground := Go.Ground.guard }, { on := 15, ground := Go.Ground.gcOnly Go.Departure.lateStores }], guard := some (7, true) }) (v := undef) rfl (by kernel_rfl) (by kernel_rfl) (by kernel_rfl) (fun _ _ _ h => h) (Or.inr ⟨by rfl, rfl⟩) (by assumption) ?tk32049
  try simp only [Act.put, List.setIfInBounds_toArray, List.set_cons_zero, List.set_cons_succ]
  refine wpAnyH_take (i := 14) (oi := { dst := some 60, op := Go.Op.pick (Go.Operand.tmp 53) (Go.Operand.tmp 59) (Go.Operand.const (Go.Value.bool false)), type := 4, pos := _, after := #[{ on := 7, ground := Go.Ground.data }, { on := 13, ground := Go.Ground.data }, { on := 15, ground := Go.Ground.gcOnly Go.Departure.lateStores }], guard := none }) (v := ?vv32050) rfl (by kernel_rfl) (by kernel_rfl) (by kernel_rfl) (fun _ _ _ h => h) (Or.inl ⟨by rfl, ?hy32050⟩) (by assumption) ?tk32050
  case hy32050 => (intro w hSw; (try dsimp only at hSw); go_simp; (try with_reducible rfl))
  try simp only [Act.put, List.setIfInBounds_toArray, List.set_cons_zero, List.set_cons_succ]
  refine wpAnyH_take (i := 15) (oi := { dst := some 6, op := Go.Op.assign (Go.Operand.tmp 46), type := 3, pos := _, after := #[{ on := 0, ground := Go.Ground.data }, { on := 7, ground := Go.Ground.chain }, { on := 0, ground := Go.Ground.phase }, { on := 1, ground := Go.Ground.textOnly Go.Departure.lateStores }, { on := 2, ground := Go.Ground.textOnly Go.Departure.lateStores }, { on := 3, ground := Go.Ground.textOnly Go.Departure.lateStores }, { on := 4, ground := Go.Ground.textOnly Go.Departure.lateStores }, { on := 5, ground := Go.Ground.textOnly Go.Departure.lateStores }, { on := 6, ground := Go.Ground.textOnly Go.Departure.lateStores }, { on := 7, ground := Go.Ground.textOnly Go.Departure.lateStores }, { on := 8, ground := Go.Ground.textOnly Go.Departure.lateStores }, { on := 9, ground := Go.Ground.textOnly Go.Departure.lateStores }, { on := 10, ground := Go.Ground.textOnly Go.Departure.lateStores }, { on := 11, ground := Go.Ground.textOnly Go.Departure.lateStores }, { on := 12, ground := Go.Ground.textOnly Go.Departure.lateStores }, { on := 13, ground := Go.Ground.textOnly Go.Departure.lateStores }, { on := 14, ground := Go.Ground.textOnly Go.Departure.lateStores }], guard := none }) (v := ?vv32051) rfl (by kernel_rfl) (by kernel_rfl) (by kernel_rfl) (fun _ _ _ h => h) (Or.inl ⟨by rfl, ?hy32051⟩) (by assumption) ?tk32051
  case hy32051 => (intro w hSw; (try dsimp only at hSw); go_simp; (try with_reducible rfl))
  try simp only [Act.put, List.setIfInBounds_toArray, List.set_cons_zero, List.set_cons_succ]
  refine wpAnyH_take (i := 16) (oi := { dst := some 7, op := Go.Op.assign (Go.Operand.tmp 60), type := 4, pos := _, after := #[{ on := 14, ground := Go.Ground.data }, { on := 15, ground := Go.Ground.chain }, { on := 0, ground := Go.Ground.phase }, { on := 1, ground := Go.Ground.phase }, { on := 2, ground := Go.Ground.phase }, { on := 3, ground := Go.Ground.phase }, { on := 4, ground := Go.Ground.phase }, { on := 5, ground := Go.Ground.phase }, { on := 6, ground := Go.Ground.phase }, { on := 7, ground := Go.Ground.phase }, { on := 8, ground := Go.Ground.phase }, { on := 9, ground := Go.Ground.phase }, { on := 10, ground := Go.Ground.phase }, { on := 11, ground := Go.Ground.phase }, { on := 12, ground := Go.Ground.phase }, { on := 13, ground := Go.Ground.phase }, { on := 14, ground := Go.Ground.phase }, { on := 15, ground := Go.Ground.phase }], guard := none }) (v := ?vv32052) rfl (by kernel_rfl) (by kernel_rfl) (by kernel_rfl) (fun _ _ _ h => h) (Or.inl ⟨by rfl, ?hy32052⟩) (by assumption) ?tk32052
  case hy32052 => (intro w hSw; (try dsimp only at hSw); go_simp; (try with_reducible rfl))
  try simp only [Act.put, List.setIfInBounds_toArray, List.set_cons_zero, List.set_cons_succ]
  refine wpAnyH_done (by kernel_rfl) ?_ _
  clear hHeld
  generalize hww : (w.setCell ⟨GC, k * 6 + 2, none⟩ (.int .i64 (-1))).drew = wd
  have HWW := hideIt hww
  clear hww
  go_wp2
  go_ret2
  obtain ⟨c4, c2, cf⟩ := HX.out
  obtain ⟨e0, e1⟩ := HE.out
  rw [← HWW.out]
  exact ⟨rfl, ⟨e0, e1, World.cell?_setCell_same _ _ _ c2, (World.cell?_setCell_other _ _ _ _ (by simp <;> omega)).trans c4⟩, fun j hj i hi => cur_other hj (by omega) hi, fun o => (World.frozen?_setCell _ _ _ _).trans (cf o), (Wr.refl _ _).set.drew⟩
end Go.Proofs.Qxb6500880a
