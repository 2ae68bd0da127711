import Derived.Deep.CutBlock
import Derived.OwnWalk
import Derived.Maps.AppendAt
import Derived.Maps.OwnSet
import Derived.Maps.OwnOps
import Derived.Laws.ResultCell
import Derived.Laws.AppendOwnNone
import Derived.Test.Qxb6500880aGreatSf
set_option linter.unusedVariables false
set_option linter.unusedSimpArgs false
namespace Go.Proofs.Qxb6500880aGreat
open Go.RowKit

set_option maxRecDepth 20000 in
set_option maxHeartbeats 8000000 in
theorem less53_any {w : World} {g n c i j x y LX SX EB RX : Nat} (hL : w.cell? ⟨LX, 0, none⟩ = some (.func (.func 38) #[] #[.pointer (some ⟨EB, 0, none⟩), .pointer (some ⟨RX, 0, none⟩)])) (hS : w.cell? ⟨SX, 0, none⟩ = some (.slice (some ⟨g, 0, none⟩) n c)) (hx : w.cell? ⟨g, i, none⟩ = some (.int .i64 (x : Int))) (hy : w.cell? ⟨g, j, none⟩ = some (.int .i64 (y : Int))) (hi : i < n) (hj : j < n)
    (hle : Calls Tryz.prog 38 #[.int .i64 (x : Int), .int .i64 (y : Int), .pointer (some ⟨EB, 0, none⟩), .pointer (some ⟨RX, 0, none⟩)] w.drew fun e w' => (∃ q, e = .returned (.bool q)) ∧ Below w.drew.heap.size w.drew w') :
    Calls Tryz.prog 53 #[.int .i64 (i : Int), .int .i64 (j : Int), .pointer (some ⟨LX, 0, none⟩), .pointer (some ⟨SX, 0, none⟩)] w fun e w' => (∃ q, e = .returned (.bool q)) ∧ Below w.heap.size w w' := by
  have i0 : (0 : Int) ≤ i := by omega
  have i1 : (i : Int) < (n : Int) := by omega
  have j0 : (0 : Int) ≤ j := by omega
  have j1 : (j : Int) < (n : Int) := by omega
  go_enter Tryz.func53, Tryz.ntmps53
  go_upto_region 1 with fail
  refine wp_region_held_drew (S := (fun w' => w'.cell? ⟨LX, 0, none⟩ = some (.func (.func 38) #[] #[.pointer (some ⟨EB, 0, none⟩), .pointer (some ⟨RX, 0, none⟩)]) ∧ w'.cell? ⟨SX, 0, none⟩ = some (.slice (some ⟨g, 0, none⟩) n c) ∧ w'.cell? ⟨g, i, none⟩ = some (.int .i64 (x : Int)) ∧ w'.cell? ⟨g, j, none⟩ = some (.int .i64 (y : Int)))) (by kernel_rfl) ⟨hL, hS, hx, hy⟩ (fun hHeld => ?_)
  refine wpAnyH_take (i := 0) (oi := { dst := some 7, op := Go.Op.load 151 (Go.Operand.tmp 2), type := 151, pos := _, after := #[], guard := none }) (v := ?vv45001) rfl (by kernel_rfl) (by kernel_rfl) (by kernel_rfl) (fun _ _ _ h => h) (Or.inl ⟨by rfl, ?hy45001⟩) (by assumption) ?tk45001
  case hy45001 => (intro w hSw; (try dsimp only at hSw); go_simp; (try with_reducible rfl))
  try simp only [Act.put, List.setIfInBounds_toArray, List.set_cons_zero, List.set_cons_succ]
  refine wpAnyH_take (i := 1) (oi := { dst := some 8, op := Go.Op.load 41 (Go.Operand.tmp 3), type := 41, pos := _, after := #[], guard := none }) (v := ?vv45002) rfl (by kernel_rfl) (by kernel_rfl) (by kernel_rfl) (fun _ _ _ h => h) (Or.inl ⟨by rfl, ?hy45002⟩) (by assumption) ?tk45002
  case hy45002 => (intro w hSw; (try dsimp only at hSw); go_simp; (try with_reducible rfl))
  try simp only [Act.put, List.setIfInBounds_toArray, List.set_cons_zero, List.set_cons_succ]
  refine wpAnyH_take (i := 2) (oi := { dst := some 9, op := Go.Op.move (Go.Operand.tmp 0), type := 3, pos := _, after := #[], guard := none }) (v := ?vv45003) rfl (by kernel_rfl) (by kernel_rfl) (by kernel_rfl) (fun _ _ _ h => h) (Or.inl ⟨by rfl, ?hy45003⟩) (by assumption) ?tk45003
  case hy45003 => (intro w hSw; (try dsimp only at hSw); go_simp; (try with_reducible rfl))
  try simp only [Act.put, List.setIfInBounds_toArray, List.set_cons_zero, List.set_cons_succ]
  refine wpAnyH_take (i := 3) (oi := { dst := some 10, op := Go.Op.indexAddr 41 (Go.Operand.tmp 8) (Go.Operand.tmp 9), type := 0, pos := _, after := #[{ on := 1, ground := Go.Ground.data }, { on := 2, ground := Go.Ground.data }], guard := none }) (v := ?vv45004) rfl (by kernel_rfl) (by kernel_rfl) (by kernel_rfl) (fun _ _ _ h => h) (Or.inl ⟨by rfl, ?hy45004⟩) (by assumption) ?tk45004
  case hy45004 => (intro w hSw; (try dsimp only at hSw); go_simp; (try with_reducible rfl))
  try simp only [Act.put, List.setIfInBounds_toArray, List.set_cons_zero, List.set_cons_succ]
  refine wpAnyH_take (i := 4) (oi := { dst := some 11, op := Go.Op.load 3 (Go.Operand.tmp 10), type := 3, pos := _, after := #[{ on := 3, ground := Go.Ground.data }], guard := none }) (v := ?vv45005) rfl (by kernel_rfl) (by kernel_rfl) (by kernel_rfl) (fun _ _ _ h => h) (Or.inl ⟨by rfl, ?hy45005⟩) (by assumption) ?tk45005
  case hy45005 => (intro w hSw; (try dsimp only at hSw); go_simp; (try with_reducible rfl))
  try simp only [Act.put, List.setIfInBounds_toArray, List.set_cons_zero, List.set_cons_succ]
  refine wpAnyH_take (i := 5) (oi := { dst := some 12, op := Go.Op.load 41 (Go.Operand.tmp 3), type := 41, pos := _, after := #[], guard := none }) (v := ?vv45006) rfl (by kernel_rfl) (by kernel_rfl) (by kernel_rfl) (fun _ _ _ h => h) (Or.inl ⟨by rfl, ?hy45006⟩) (by assumption) ?tk45006
  case hy45006 => (intro w hSw; (try dsimp only at hSw); go_simp; (try with_reducible rfl))
  try simp only [Act.put, List.setIfInBounds_toArray, List.set_cons_zero, List.set_cons_succ]
  refine wpAnyH_take (i := 6) (oi := { dst := some 13, op := Go.Op.move (Go.Operand.tmp 1), type := 3, pos := _, after := #[], guard := none }) (v := ?vv45007) rfl (by kernel_rfl) (by kernel_rfl) (by kernel_rfl) (fun _ _ _ h => h) (Or.inl ⟨by rfl, ?hy45007⟩) (by assumption) ?tk45007
  case hy45007 => (intro w hSw; (try dsimp only at hSw); go_simp; (try with_reducible rfl))
  try simp only [Act.put, List.setIfInBounds_toArray, List.set_cons_zero, List.set_cons_succ]
  refine wpAnyH_take (i := 7) (oi := { dst := some 14, op := Go.Op.indexAddr 41 (Go.Operand.tmp 12) (Go.Operand.tmp 13), type := 0, pos := _, after := #[{ on := 5, ground := Go.Ground.data }, { on := 6, ground := Go.Ground.data }], guard := none }) (v := ?vv45008) rfl (by kernel_rfl) (by kernel_rfl) (by kernel_rfl) (fun _ _ _ h => h) (Or.inl ⟨by rfl, ?hy45008⟩) (by assumption) ?tk45008
  case hy45008 => (intro w hSw; (try dsimp only at hSw); go_simp; (try with_reducible rfl))
  try simp only [Act.put, List.setIfInBounds_toArray, List.set_cons_zero, List.set_cons_succ]
  refine wpAnyH_take (i := 8) (oi := { dst := some 15, op := Go.Op.load 3 (Go.Operand.tmp 14), type := 3, pos := _, after := #[{ on := 7, ground := Go.Ground.data }], guard := none }) (v := ?vv45009) rfl (by kernel_rfl) (by kernel_rfl) (by kernel_rfl) (fun _ _ _ h => h) (Or.inl ⟨by rfl, ?hy45009⟩) (by assumption) ?tk45009
  case hy45009 => (intro w hSw; (try dsimp only at hSw); go_simp; (try with_reducible rfl))
  try simp only [Act.put, List.setIfInBounds_toArray, List.set_cons_zero, List.set_cons_succ]
  refine wpAnyH_ready (rs := [9]) (by kernel_rfl) (by simp) ?_
  refine AllReadyH.cons (o := { dst := some 16, op := Go.Op.call { callee := Go.Callee.value (Go.Operand.tmp 7), args := #[Go.Operand.tmp 11, Go.Operand.tmp 15], argTypes := #[3, 3] }, type := 4, pos := _, after := #[{ on := 0, ground := Go.Ground.data }, { on := 4, ground := Go.Ground.data }, { on := 8, ground := Go.Ground.data }], guard := none }) rfl (fun K' hK' => ?_) AllReadyH.nil
  go_simp
  go_at_call 38
  refine hle.mono ?_
  rintro e w5 ⟨⟨q, rfl⟩, b5⟩
  have x1 := cell_later b5 (show w.drew.cell? _ = _ from hL)
  have x2 := cell_later b5 (show w.drew.cell? _ = _ from hS)
  have x3 := cell_later b5 (show w.drew.cell? _ = _ from hx)
  have x4 := cell_later b5 (show w.drew.cell? _ = _ from hy)
  have HX5 := hideIt b5
  clear b5 hle
  clear hHeld
  refine hK'.out _ _ ⟨x1, x2, x3, x4⟩ (fun hHeld => ?_)
  clear hK' K'
  try simp only [Act.put, List.setIfInBounds_toArray, List.set_cons_zero, List.set_cons_succ]
  refine wpAnyH_take (i := 10) (oi := { dst := some 6, op := Go.Op.assign (Go.Operand.tmp 16), type := 4, pos := _, after := #[{ on := 9, ground := Go.Ground.data }, { on := 9, ground := Go.Ground.chain }, { on := 0, ground := Go.Ground.phase }, { on := 1, ground := Go.Ground.phase }, { on := 2, ground := Go.Ground.phase }, { on := 3, ground := Go.Ground.phase }, { on := 4, ground := Go.Ground.phase }, { on := 5, ground := Go.Ground.phase }, { on := 6, ground := Go.Ground.phase }, { on := 7, ground := Go.Ground.phase }, { on := 8, ground := Go.Ground.phase }, { on := 9, ground := Go.Ground.phase }], guard := none }) (v := ?vv45010) rfl (by kernel_rfl) (by kernel_rfl) (by kernel_rfl) (fun _ _ _ h => h) (Or.inl ⟨by rfl, ?hy45010⟩) (by assumption) ?tk45010
  case hy45010 => (intro w hSw; (try dsimp only at hSw); go_simp; (try with_reducible rfl))
  try simp only [Act.put, List.setIfInBounds_toArray, List.set_cons_zero, List.set_cons_succ]
  refine wpAnyH_done (by kernel_rfl) ?_ _
  clear hHeld x1 x2 x3 x4
  go_wp2
  go_ret
  have b5 := HX5.out
  exact ⟨⟨_, rfl⟩, ⟨b5.os, b5.tape, b5.output, b5.size, b5.block⟩⟩
end Go.Proofs.Qxb6500880aGreat
