import Derived.Deep.CutBlock
import Derived.OwnWalk
import Derived.Maps.AppendAt
import Derived.Maps.OwnSet
import Derived.Maps.OwnOps
import Derived.Laws.ResultCell
import Derived.Laws.AppendOwnNone
import Derived.Test.Qxb6500880aGreatSb
set_option linter.unusedVariables false
set_option linter.unusedSimpArgs false
namespace Go.Proofs.Qxb6500880aGreat
open Go.RowKit

set_option maxRecDepth 20000 in
set_option maxHeartbeats 8000000 in
theorem less_any {w : World} {E EB RX SB mi k b i j : Nat} {vals : Value} {nm : ByteArray} {s : RelS} {d : Nat → Nat} (be : w.cell? ⟨EB, 0, none⟩ = some (.pointer (some ⟨E, 0, none⟩))) (br : w.cell? ⟨RX, 0, none⟩ = some (.pointer (some ⟨b, 0, none⟩))) (e4 : w.cell? ⟨E, 4, none⟩ = some (.pointer (some ⟨SB, 0, none⟩))) (H : SymsAt w SB mi vals k) (R : RelAt w b nm s) (hd : SymR w s.data (s.rows * s.A) d) (hv : ∀ j, j < s.rows * s.A → d j < k) (hA0 : 0 < s.A) (hA : s.A ≤ 1000) (hR : s.rows ≤ 1000) (hk : k ≤ 1000) (hi : i < s.rows) (hj : j < s.rows) :
    Calls Tryz.prog 38 #[.int .i64 (i : Int), .int .i64 (j : Int), .pointer (some ⟨EB, 0, none⟩), .pointer (some ⟨RX, 0, none⟩)] w fun e w' => (∃ q, e = .returned (.bool q)) ∧ Below w.heap.size w w' := by
  have hr1 := row_any (w := w.drew) R.drew (hd.below (below_dr (Below.refl _ _))) hA0 hA hR hi
  have hr2 := row_any (w := w.drew.drew) R.drew.drew (hd.below (below_dr (below_dr (Below.refl _ _)))) hA0 hA hR hj
  have HH : Hid (SymsAt w.drew.drew.drew SB mi vals k ∧ (∀ t, t < s.A → d (i * s.A + t) < k) ∧ ∀ t, t < s.A → d (j * s.A + t) < k) := hideIt ⟨H.keep (fun _ _ _ => rfl), fun t ht => hv _ (row_lt hi ht), fun t ht => hv _ (row_lt hj ht)⟩
  clear H R hd hv
  go_enter Tryz.func38, Tryz.ntmps38
  go_upto_region 1 with fail
  refine wp_region_held_drew (S := (fun w' => w'.cell? ⟨EB, 0, none⟩ = some (.pointer (some ⟨E, 0, none⟩)) ∧ w'.cell? ⟨RX, 0, none⟩ = some (.pointer (some ⟨b, 0, none⟩)) ∧ w'.cell? ⟨E, 4, none⟩ = some (.pointer (some ⟨SB, 0, none⟩)))) (by kernel_rfl) ⟨be, br, e4⟩ (fun hHeld => ?_)
  refine wpAnyH_take (i := 0) (oi := { dst := some 7, op := Go.Op.load 58 (Go.Operand.tmp 2), type := 58, pos := _, after := #[], guard := none }) (v := ?vv44401) rfl (by kernel_rfl) (by kernel_rfl) (by kernel_rfl) (fun _ _ _ h => h) (Or.inl ⟨by rfl, ?hy44401⟩) (by assumption) ?tk44401
  case hy44401 => (intro w hSw; (try dsimp only at hSw); go_simp; (try with_reducible rfl))
  try simp only [Act.put, List.setIfInBounds_toArray, List.set_cons_zero, List.set_cons_succ]
  refine wpAnyH_take (i := 1) (oi := { dst := some 8, op := Go.Op.nilCheck (Go.Operand.tmp 7), type := 0, pos := _, after := #[{ on := 0, ground := Go.Ground.data }], guard := none }) (v := ?vv44402) rfl (by kernel_rfl) (by kernel_rfl) (by kernel_rfl) (fun _ _ _ h => h) (Or.inl ⟨by rfl, ?hy44402⟩) (by assumption) ?tk44402
  case hy44402 => (intro w hSw; (try dsimp only at hSw); go_simp; (try with_reducible rfl))
  try simp only [Act.put, List.setIfInBounds_toArray, List.set_cons_zero, List.set_cons_succ]
  refine wpAnyH_take (i := 2) (oi := { dst := some 9, op := Go.Op.fieldAddr 86 (Go.Operand.tmp 8) 1, type := 0, pos := _, after := #[{ on := 1, ground := Go.Ground.data }], guard := none }) (v := ?vv44403) rfl (by kernel_rfl) (by kernel_rfl) (by kernel_rfl) (fun _ _ _ h => h) (Or.inl ⟨by rfl, ?hy44403⟩) (by assumption) ?tk44403
  case hy44403 => (intro w hSw; (try dsimp only at hSw); go_simp; (try with_reducible rfl))
  try simp only [Act.put, List.setIfInBounds_toArray, List.set_cons_zero, List.set_cons_succ]
  refine wpAnyH_take (i := 3) (oi := { dst := some 10, op := Go.Op.load 73 (Go.Operand.tmp 9), type := 73, pos := _, after := #[{ on := 2, ground := Go.Ground.data }], guard := none }) (v := ?vv44404) rfl (by kernel_rfl) (by kernel_rfl) (by kernel_rfl) (fun _ _ _ h => h) (Or.inl ⟨by rfl, ?hy44404⟩) (by assumption) ?tk44404
  case hy44404 => (intro w hSw; (try dsimp only at hSw); go_simp; (try with_reducible rfl))
  try simp only [Act.put, List.setIfInBounds_toArray, List.set_cons_zero, List.set_cons_succ]
  refine wpAnyH_take (i := 4) (oi := { dst := some 11, op := Go.Op.load 99 (Go.Operand.tmp 3), type := 99, pos := _, after := #[], guard := none }) (v := ?vv44405) rfl (by kernel_rfl) (by kernel_rfl) (by kernel_rfl) (fun _ _ _ h => h) (Or.inl ⟨by rfl, ?hy44405⟩) (by assumption) ?tk44405
  case hy44405 => (intro w hSw; (try dsimp only at hSw); go_simp; (try with_reducible rfl))
  try simp only [Act.put, List.setIfInBounds_toArray, List.set_cons_zero, List.set_cons_succ]
  refine wpAnyH_take (i := 5) (oi := { dst := some 12, op := Go.Op.move (Go.Operand.tmp 0), type := 3, pos := _, after := #[], guard := none }) (v := ?vv44406) rfl (by kernel_rfl) (by kernel_rfl) (by kernel_rfl) (fun _ _ _ h => h) (Or.inl ⟨by rfl, ?hy44406⟩) (by assumption) ?tk44406
  case hy44406 => (intro w hSw; (try dsimp only at hSw); go_simp; (try with_reducible rfl))
  try simp only [Act.put, List.setIfInBounds_toArray, List.set_cons_zero, List.set_cons_succ]
  refine wpAnyH_take (i := 7) (oi := { dst := some 14, op := Go.Op.load 99 (Go.Operand.tmp 3), type := 99, pos := _, after := #[], guard := none }) (v := ?vv44407) rfl (by kernel_rfl) (by kernel_rfl) (by kernel_rfl) (fun _ _ _ h => h) (Or.inl ⟨by rfl, ?hy44407⟩) (by assumption) ?tk44407
  case hy44407 => (intro w hSw; (try dsimp only at hSw); go_simp; (try with_reducible rfl))
  try simp only [Act.put, List.setIfInBounds_toArray, List.set_cons_zero, List.set_cons_succ]
  refine wpAnyH_take (i := 8) (oi := { dst := some 15, op := Go.Op.move (Go.Operand.tmp 1), type := 3, pos := _, after := #[], guard := none }) (v := ?vv44408) rfl (by kernel_rfl) (by kernel_rfl) (by kernel_rfl) (fun _ _ _ h => h) (Or.inl ⟨by rfl, ?hy44408⟩) (by assumption) ?tk44408
  case hy44408 => (intro w hSw; (try dsimp only at hSw); go_simp; (try with_reducible rfl))
  try simp only [Act.put, List.setIfInBounds_toArray, List.set_cons_zero, List.set_cons_succ]
  refine wpAnyH_ready (rs := [6]) (by kernel_rfl) (by simp) ?_
  refine AllReadyH.cons (o := { dst := some 13, op := Go.Op.call { callee := Go.Callee.value (Go.Operand.func 22), args := #[Go.Operand.tmp 11, Go.Operand.tmp 12], argTypes := #[99, 3] }, type := 83, pos := _, after := #[{ on := 4, ground := Go.Ground.data }, { on := 5, ground := Go.Ground.data }], guard := none }) rfl (fun K' hK' => ?_) AllReadyH.nil
  go_simp
  go_at_call 22
  refine hr1.mono ?_
  rintro e w5 ⟨v1, rfl, sy1, _, ew⟩
  rw [ew] at sy1 ⊢
  have HS1 := hideIt sy1
  clear hr1 sy1 ew w5
  obtain ⟨p1, c1, e1⟩ : ∃ p c, v1 = .slice p s.A c := by obtain ⟨p, c, e, _⟩ := HS1.out; exact ⟨p, c, e⟩
  subst e1
  clear hHeld
  refine hK'.out _ _ ⟨be, br, e4⟩ (fun hHeld => ?_)
  clear hK' K'
  try simp only [Act.put, List.setIfInBounds_toArray, List.set_cons_zero, List.set_cons_succ]
  refine wpAnyH_ready (rs := [9]) (by kernel_rfl) (by simp) ?_
  refine AllReadyH.cons (o := { dst := some 16, op := Go.Op.call { callee := Go.Callee.value (Go.Operand.func 22), args := #[Go.Operand.tmp 14, Go.Operand.tmp 15], argTypes := #[99, 3] }, type := 83, pos := _, after := #[{ on := 7, ground := Go.Ground.data }, { on := 8, ground := Go.Ground.data }, { on := 6, ground := Go.Ground.chain }], guard := none }) rfl (fun K' hK' => ?_) AllReadyH.nil
  go_simp
  go_at_call 22
  refine hr2.mono ?_
  rintro e w6 ⟨v2, rfl, sy2, _, ew⟩
  rw [ew] at sy2 ⊢
  have HS2 := hideIt sy2
  clear hr2 sy2 ew w6
  obtain ⟨p2, c2, e2⟩ : ∃ p c, v2 = .slice p s.A c := by obtain ⟨p, c, e, _⟩ := HS2.out; exact ⟨p, c, e⟩
  subst e2
  have hco := compareRows_any (w := w.drew.drew.drew) (H := HH.out.1) (H1 := HS1.out) (H2 := HS2.out) HH.out.2.1 HH.out.2.2 hA hk
  clear hHeld
  refine hK'.out _ _ ⟨be, br, e4⟩ (fun hHeld => ?_)
  clear hK' K'
  try simp only [Act.put, List.setIfInBounds_toArray, List.set_cons_zero, List.set_cons_succ]
  refine wpAnyH_ready (rs := [10]) (by kernel_rfl) (by simp) ?_
  refine AllReadyH.cons (o := { dst := some 17, op := Go.Op.call { callee := Go.Callee.value (Go.Operand.func 39), args := #[Go.Operand.tmp 10, Go.Operand.tmp 13, Go.Operand.tmp 16], argTypes := #[73, 83, 83] }, type := 3, pos := _, after := #[{ on := 3, ground := Go.Ground.data }, { on := 6, ground := Go.Ground.data }, { on := 9, ground := Go.Ground.data }, { on := 9, ground := Go.Ground.chain }], guard := none }) rfl (fun K' hK' => ?_) AllReadyH.nil
  go_simp
  go_at_call 39
  refine hco.mono ?_
  rintro e w7 ⟨⟨q, rfl⟩, b7⟩
  have x1 := cell_later b7 (show w.drew.drew.drew.cell? _ = _ from be)
  have x2 := cell_later b7 (show w.drew.drew.drew.cell? _ = _ from br)
  have x3 := cell_later b7 (show w.drew.drew.drew.cell? _ = _ from e4)
  have HX7 := hideIt b7
  clear b7 hco
  clear hHeld
  refine hK'.out _ _ ⟨x1, x2, x3⟩ (fun hHeld => ?_)
  clear hK' K'
  try simp only [Act.put, List.setIfInBounds_toArray, List.set_cons_zero, List.set_cons_succ]
  refine wpAnyH_take (i := 11) (oi := { dst := some 18, op := Go.Op.binOp Go.BinOp.lss 3 (Go.Operand.tmp 17) (Go.Operand.const (Go.Value.int Go.IntKind.i64 0)) 3, type := 4, pos := _, after := #[{ on := 10, ground := Go.Ground.data }], guard := none }) (v := ?vv44409) rfl (by kernel_rfl) (by kernel_rfl) (by kernel_rfl) (fun _ _ _ h => h) (Or.inl ⟨by rfl, ?hy44409⟩) (by assumption) ?tk44409
  case hy44409 => (intro w hSw; (try dsimp only at hSw); go_simp; (try with_reducible rfl))
  try simp only [Act.put, List.setIfInBounds_toArray, List.set_cons_zero, List.set_cons_succ]
  refine wpAnyH_take (i := 12) (oi := { dst := some 6, op := Go.Op.assign (Go.Operand.tmp 18), type := 4, pos := _, after := #[{ on := 11, ground := Go.Ground.data }, { on := 10, ground := Go.Ground.chain }, { on := 0, ground := Go.Ground.phase }, { on := 1, ground := Go.Ground.phase }, { on := 2, ground := Go.Ground.phase }, { on := 3, ground := Go.Ground.phase }, { on := 4, ground := Go.Ground.phase }, { on := 5, ground := Go.Ground.phase }, { on := 6, ground := Go.Ground.phase }, { on := 7, ground := Go.Ground.phase }, { on := 8, ground := Go.Ground.phase }, { on := 9, ground := Go.Ground.phase }, { on := 10, ground := Go.Ground.phase }, { on := 11, ground := Go.Ground.phase }], guard := none }) (v := ?vv44410) rfl (by kernel_rfl) (by kernel_rfl) (by kernel_rfl) (fun _ _ _ h => h) (Or.inl ⟨by rfl, ?hy44410⟩) (by assumption) ?tk44410
  case hy44410 => (intro w hSw; (try dsimp only at hSw); go_simp; (try with_reducible rfl))
  try simp only [Act.put, List.setIfInBounds_toArray, List.set_cons_zero, List.set_cons_succ]
  refine wpAnyH_done (by kernel_rfl) ?_ _
  clear hHeld x1 x2 x3
  go_wp2
  go_ret
  have b7 := HX7.out
  exact ⟨⟨_, rfl⟩, ⟨b7.os, b7.tape, b7.output, b7.size, b7.block⟩⟩
end Go.Proofs.Qxb6500880aGreat
