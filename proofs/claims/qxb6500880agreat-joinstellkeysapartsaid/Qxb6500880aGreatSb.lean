import Derived.Deep.CutBlock
import Derived.OwnWalk
import Derived.Maps.AppendAt
import Derived.Maps.OwnSet
import Derived.Maps.OwnOps
import Derived.Laws.ResultCell
import Derived.Laws.AppendOwnNone
import Derived.Test.Qxb6500880aGreatSa
set_option linter.unusedVariables false
set_option linter.unusedSimpArgs false
namespace Go.Proofs.Qxb6500880aGreat
open Go.RowKit

set_option maxRecDepth 20000 in
set_option maxHeartbeats 8000000 in
theorem compareRows_any {w : World} {SB mi k n : Nat} {vals v v' : Value} {r r' : Nat → Nat} (H : SymsAt w SB mi vals k) (H1 : SymR w v n r) (H2 : SymR w v' n r') (hr : ∀ j, j < n → r j < k) (hr' : ∀ j, j < n → r' j < k) (hn : n ≤ 1000) (hk : k ≤ 1000) :
    Calls Tryz.prog 39 #[.pointer (some ⟨SB, 0, none⟩), v, v'] w fun e w' => (∃ q, e = .returned (.int .i64 q)) ∧ Below w.heap.size w w' := by
  obtain ⟨p1, c1, rfl, hc1, z1⟩ := H1
  obtain ⟨p2, c2, rfl, hc2, z2⟩ := H2
  have HZ := hideIt (And.intro z1 (And.intro z2 (And.intro hr (And.intro hr' H))))
  clear z1 z2 H hr hr'
  go_enter Tryz.func39, Tryz.ntmps39
  go_wp2_with fail
  go_loopg [11] n (fun gg v wr => ∃ i : Nat, i + gg = n ∧ v = .int .i64 (i : Int) ∧ Below w.heap.size w wr)
  case atStart => exact ⟨0, by omega, rfl, Below.refl _ _⟩
  case round =>
    obtain ⟨i, hi, rfl, bw⟩ := hrel
    by_cases hin : i < n
    · have i0 : (0 : Int) ≤ i := by omega
      have i1 : (i : Int) < (n : Int) := by omega
      obtain ⟨z1, z2, hr, hr', H⟩ := HZ.out
      obtain ⟨g1, o1, rfl, a1⟩ : ∃ g1 o1, p1 = some ⟨g1, o1, none⟩ ∧ wr.cell? ⟨g1, o1 + i, none⟩ = some (.int .u32 (r i : Int)) := by
        rcases z1 with z | ⟨g, o, e, z⟩
        · omega
        · exact ⟨g, o, e, cell_later bw (z i hin)⟩
      obtain ⟨g2, o2, rfl, a2⟩ : ∃ g2 o2, p2 = some ⟨g2, o2, none⟩ ∧ wr.cell? ⟨g2, o2 + i, none⟩ = some (.int .u32 (r' i : Int)) := by
        rcases z2 with z | ⟨g, o, e, z⟩
        · omega
        · exact ⟨g, o, e, cell_later bw (z i hin)⟩
      have hco := compareS_any (w := wr.drew) (x := r i) (y := r' i) ((H.keep (fun q _ hl => bw.block q hl)).keep (fun _ _ _ => rfl)) (hr i hin) (hr' i hin) hk
      have HB := hideIt bw
      clear z1 z2 hr hr' H bw
      go_upto_region 4 with fail
      refine wp_region_held_drew (S := (fun w' => w'.cell? ⟨g1, o1 + i, none⟩ = some (.int .u32 (r i : Int)) ∧ w'.cell? ⟨g2, o2 + i, none⟩ = some (.int .u32 (r' i : Int)))) (by kernel_rfl) ⟨a1, a2⟩ (fun hHeld => ?_)
      refine wpAnyH_take (i := 0) (oi := { dst := some 14, op := Go.Op.move (Go.Operand.tmp 0), type := 73, pos := _, after := #[], guard := none }) (v := ?vv44201) rfl (by kernel_rfl) (by kernel_rfl) (by kernel_rfl) (fun _ _ _ h => h) (Or.inl ⟨by rfl, ?hy44201⟩) (by assumption) ?tk44201
      case hy44201 => (intro w hSw; (try dsimp only at hSw); go_simp; (try with_reducible rfl))
      try simp only [Act.put, List.setIfInBounds_toArray, List.set_cons_zero, List.set_cons_succ]
      refine wpAnyH_take (i := 1) (oi := { dst := some 15, op := Go.Op.move (Go.Operand.tmp 1), type := 83, pos := _, after := #[], guard := none }) (v := ?vv44202) rfl (by kernel_rfl) (by kernel_rfl) (by kernel_rfl) (fun _ _ _ h => h) (Or.inl ⟨by rfl, ?hy44202⟩) (by assumption) ?tk44202
      case hy44202 => (intro w hSw; (try dsimp only at hSw); go_simp; (try with_reducible rfl))
      try simp only [Act.put, List.setIfInBounds_toArray, List.set_cons_zero, List.set_cons_succ]
      refine wpAnyH_take (i := 2) (oi := { dst := some 16, op := Go.Op.move (Go.Operand.tmp 7), type := 3, pos := _, after := #[], guard := none }) (v := ?vv44203) rfl (by kernel_rfl) (by kernel_rfl) (by kernel_rfl) (fun _ _ _ h => h) (Or.inl ⟨by rfl, ?hy44203⟩) (by assumption) ?tk44203
      case hy44203 => (intro w hSw; (try dsimp only at hSw); go_simp; (try with_reducible rfl))
      try simp only [Act.put, List.setIfInBounds_toArray, List.set_cons_zero, List.set_cons_succ]
      refine wpAnyH_take (i := 3) (oi := { dst := some 17, op := Go.Op.indexAddr 83 (Go.Operand.tmp 15) (Go.Operand.tmp 16), type := 0, pos := _, after := #[{ on := 1, ground := Go.Ground.data }, { on := 2, ground := Go.Ground.data }], guard := none }) (v := ?vv44204) rfl (by kernel_rfl) (by kernel_rfl) (by kernel_rfl) (fun _ _ _ h => h) (Or.inl ⟨by rfl, ?hy44204⟩) (by assumption) ?tk44204
      case hy44204 => (intro w hSw; (try dsimp only at hSw); go_simp; (try with_reducible rfl))
      try simp only [Act.put, List.setIfInBounds_toArray, List.set_cons_zero, List.set_cons_succ]
      refine wpAnyH_take (i := 4) (oi := { dst := some 18, op := Go.Op.load 109 (Go.Operand.tmp 17), type := 109, pos := _, after := #[{ on := 3, ground := Go.Ground.data }], guard := none }) (v := ?vv44205) rfl (by kernel_rfl) (by kernel_rfl) (by kernel_rfl) (fun _ _ _ h => h) (Or.inl ⟨by rfl, ?hy44205⟩) (by assumption) ?tk44205
      case hy44205 => (intro w hSw; (try dsimp only at hSw); go_simp; (try with_reducible rfl))
      try simp only [Act.put, List.setIfInBounds_toArray, List.set_cons_zero, List.set_cons_succ]
      refine wpAnyH_take (i := 5) (oi := { dst := some 19, op := Go.Op.move (Go.Operand.tmp 2), type := 83, pos := _, after := #[], guard := none }) (v := ?vv44206) rfl (by kernel_rfl) (by kernel_rfl) (by kernel_rfl) (fun _ _ _ h => h) (Or.inl ⟨by rfl, ?hy44206⟩) (by assumption) ?tk44206
      case hy44206 => (intro w hSw; (try dsimp only at hSw); go_simp; (try with_reducible rfl))
      try simp only [Act.put, List.setIfInBounds_toArray, List.set_cons_zero, List.set_cons_succ]
      refine wpAnyH_take (i := 6) (oi := { dst := some 20, op := Go.Op.move (Go.Operand.tmp 7), type := 3, pos := _, after := #[], guard := none }) (v := ?vv44207) rfl (by kernel_rfl) (by kernel_rfl) (by kernel_rfl) (fun _ _ _ h => h) (Or.inl ⟨by rfl, ?hy44207⟩) (by assumption) ?tk44207
      case hy44207 => (intro w hSw; (try dsimp only at hSw); go_simp; (try with_reducible rfl))
      try simp only [Act.put, List.setIfInBounds_toArray, List.set_cons_zero, List.set_cons_succ]
      refine wpAnyH_take (i := 7) (oi := { dst := some 21, op := Go.Op.indexAddr 83 (Go.Operand.tmp 19) (Go.Operand.tmp 20), type := 0, pos := _, after := #[{ on := 5, ground := Go.Ground.data }, { on := 6, ground := Go.Ground.data }], guard := none }) (v := ?vv44208) rfl (by kernel_rfl) (by kernel_rfl) (by kernel_rfl) (fun _ _ _ h => h) (Or.inl ⟨by rfl, ?hy44208⟩) (by assumption) ?tk44208
      case hy44208 => (intro w hSw; (try dsimp only at hSw); go_simp; (try with_reducible rfl))
      try simp only [Act.put, List.setIfInBounds_toArray, List.set_cons_zero, List.set_cons_succ]
      refine wpAnyH_take (i := 8) (oi := { dst := some 22, op := Go.Op.load 109 (Go.Operand.tmp 21), type := 109, pos := _, after := #[{ on := 7, ground := Go.Ground.data }], guard := none }) (v := ?vv44209) rfl (by kernel_rfl) (by kernel_rfl) (by kernel_rfl) (fun _ _ _ h => h) (Or.inl ⟨by rfl, ?hy44209⟩) (by assumption) ?tk44209
      case hy44209 => (intro w hSw; (try dsimp only at hSw); go_simp; (try with_reducible rfl))
      try simp only [Act.put, List.setIfInBounds_toArray, List.set_cons_zero, List.set_cons_succ]
      refine wpAnyH_ready (rs := [9]) (by kernel_rfl) (by simp) ?_
      refine AllReadyH.cons (o := { dst := some 23, op := Go.Op.call { callee := Go.Callee.value (Go.Operand.func 54), args := #[Go.Operand.tmp 14, Go.Operand.tmp 18, Go.Operand.tmp 22], argTypes := #[73, 109, 109] }, type := 3, pos := _, after := #[{ on := 0, ground := Go.Ground.data }, { on := 4, ground := Go.Ground.data }, { on := 8, ground := Go.Ground.data }], guard := none }) rfl (fun K' hK' => ?_) AllReadyH.nil
      go_simp
      go_at_call 54
      refine hco.mono ?_
      rintro e w5 ⟨⟨q, rfl⟩, b5⟩
      have x1 := cell_later b5 a1
      have x2 := cell_later b5 a2
      have HX5 := hideIt b5
      clear b5 hco
      clear hHeld
      refine hK'.out _ _ ⟨x1, x2⟩ (fun hHeld => ?_)
      clear hK' K'
      try simp only [Act.put, List.setIfInBounds_toArray, List.set_cons_zero, List.set_cons_succ]
      refine wpAnyH_take (i := 10) (oi := { dst := some 8, op := Go.Op.assign (Go.Operand.tmp 23), type := 3, pos := _, after := #[{ on := 9, ground := Go.Ground.data }, { on := 9, ground := Go.Ground.chain }, { on := 0, ground := Go.Ground.phase }, { on := 1, ground := Go.Ground.phase }, { on := 2, ground := Go.Ground.phase }, { on := 3, ground := Go.Ground.phase }, { on := 4, ground := Go.Ground.phase }, { on := 5, ground := Go.Ground.phase }, { on := 6, ground := Go.Ground.phase }, { on := 7, ground := Go.Ground.phase }, { on := 8, ground := Go.Ground.phase }, { on := 9, ground := Go.Ground.phase }], guard := none }) (v := ?vv44210) rfl (by kernel_rfl) (by kernel_rfl) (by kernel_rfl) (fun _ _ _ h => h) (Or.inl ⟨by rfl, ?hy44210⟩) (by assumption) ?tk44210
      case hy44210 => (intro w hSw; (try dsimp only at hSw); go_simp; (try with_reducible rfl))
      try simp only [Act.put, List.setIfInBounds_toArray, List.set_cons_zero, List.set_cons_succ]
      refine wpAnyH_done (by kernel_rfl) ?_ _
      clear hHeld x1 x2 a1 a2
      have HB5 := hideIt (then_ (below_dr HB.out) HX5.out)
      clear HX5 HB
      by_cases hq : q = 0
      · subst hq
        go_wp2
        go_roundg (n - (i + 1))
        case measure => omega
        case rel => exact ⟨i + 1, by omega, by go_num, HB5.out⟩
      · go_wp2
        go_ret
        exact ⟨⟨_, rfl⟩, HB5.out⟩
    · have i1 : ¬ ((i : Int) < (n : Int)) := by omega
      have HB := hideIt bw
      clear bw
      go_wp2
      go_ret
      exact ⟨⟨_, rfl⟩, HB.out⟩
end Go.Proofs.Qxb6500880aGreat
