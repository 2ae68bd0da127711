import Derived.Deep.CutBlock
import Derived.OwnWalk
import Derived.Maps.AppendAt
import Derived.Maps.OwnSet
import Derived.Maps.OwnOps
import Derived.Laws.ResultCell
import Derived.Test.Qxb6500880aGreatLb
set_option linter.unusedVariables false
set_option linter.unusedSimpArgs false
namespace Go.Proofs.Qxb6500880aGreat
open Go.RowKit

/-- What the columns draw from. -/
structure ChAt (w : World) (G B : Nat) : Prop where
  c : ∀ col, col < 3 → ∃ (g n c : Nat) (pv : Nat → Nat), w.cell? ⟨G, col, none⟩ = some (.slice (some ⟨g, 0, none⟩) n c) ∧ 0 < n ∧ n ≤ 4 ∧ g ≠ B ∧ (∀ j, j < n → pv j < 64) ∧ ∀ j, j < n → w.cell? ⟨g, j, none⟩ = some (.int .i64 (pv j : Int))
  ne : G ≠ B
theorem ChAt.keep {w w' : World} {G B : Nat} (h : ChAt w G B) (hk : ∀ q, q < w.heap.size → q ≠ B → w'.heap[q]? = w.heap[q]?) : ChAt w' G B := ⟨fun col hcol => by
  obtain ⟨g, n, c, pv, h1, h2, h3, h4, h5, h6⟩ := h.c col hcol
  refine ⟨g, n, c, pv, (World.cell?_of_block (a := ⟨G, col, none⟩) (hk G (World.block_lt_of_cell? _ _ h1) h.ne)).trans h1, h2, h3, h4, h5, fun j hj => ?_⟩
  exact (World.cell?_of_block (a := ⟨g, j, none⟩) (hk g (World.block_lt_of_cell? _ _ (h6 j hj)) h4)).trans (h6 j hj), h.ne⟩
theorem ChAt.below {w w' : World} {G B : Nat} (h : ChAt w G B) (hb : Below w.heap.size w w') : ChAt w' G B := h.keep (fun q hl _ => hb.block q hl)
theorem ChAt.wr {w w' : World} {G B : Nat} (h : ChAt w G B) (hb : Wr B w w') : ChAt w' G B := h.keep (fun q hl hq => hb.block q hl hq)
set_option maxRecDepth 20000 in
set_option maxHeartbeats 8000000 in
theorem draw_any {w : World} {G B col : Nat} (C : ChAt w G B) (D : DiceAt w B) (hcol : col < 3) :
    Calls Tryz.prog 7 #[.int .i64 (col : Int), .pointer (some ⟨G, 0, none⟩), .pointer (some ⟨B, 0, none⟩)] w fun e w' => ∃ v : Nat, e = .returned (.int .i64 (v : Int)) ∧ v < 64 ∧ DiceAt w' B ∧ Wr B w w' := by
  obtain ⟨g, n, c, pv, hc, hn0, hn, hgB, hpv, hg⟩ := C.c col hcol
  have hGB := C.ne
  have c0 : (0 : Int) ≤ col := by omega
  have c1 : (col : Int) < 3 := by omega
  have hro := roll_any (w := w.drew) (D.blk rfl) hn0 (by omega)
  have HP := hideIt hpv
  clear C D hpv
  go_enter Tryz.func7, Tryz.ntmps7
  go_upto_region 1 with fail
  refine wp_region_held_drew (S := (fun w' => w'.cell? ⟨G, col, none⟩ = some (.slice (some ⟨g, 0, none⟩) n c) ∧ ∀ j, j < n → w'.cell? ⟨g, j, none⟩ = some (.int .i64 (pv j : Int)))) (by kernel_rfl) ⟨hc, hg⟩ (fun hHeld => ?_)
  refine wpAnyH_take (i := 0) (oi := { dst := some 5, op := Go.Op.move (Go.Operand.tmp 0), type := 3, pos := _, after := #[], guard := none }) (v := ?vv48201) rfl (by kernel_rfl) (by kernel_rfl) (by kernel_rfl) (fun _ _ _ h => h) (Or.inl ⟨by rfl, ?hy48201⟩) (by assumption) ?tk48201
  case hy48201 => (intro w hSw; (try dsimp only at hSw); go_simp; (try with_reducible rfl))
  try simp only [Act.put, List.setIfInBounds_toArray, List.set_cons_zero, List.set_cons_succ]
  refine wpAnyH_take (i := 1) (oi := { dst := some 6, op := Go.Op.indexAddr 42 (Go.Operand.tmp 1) (Go.Operand.tmp 5), type := 0, pos := _, after := #[{ on := 0, ground := Go.Ground.data }], guard := none }) (v := ?vv48202) rfl (by kernel_rfl) (by kernel_rfl) (by kernel_rfl) (fun _ _ _ h => h) (Or.inl ⟨by rfl, ?hy48202⟩) (by assumption) ?tk48202
  case hy48202 => (intro w hSw; (try dsimp only at hSw); go_simp; (try with_reducible rfl))
  try simp only [Act.put, List.setIfInBounds_toArray, List.set_cons_zero, List.set_cons_succ]
  refine wpAnyH_take (i := 2) (oi := { dst := some 7, op := Go.Op.load 41 (Go.Operand.tmp 6), type := 41, pos := _, after := #[{ on := 1, ground := Go.Ground.data }], guard := none }) (v := ?vv48203) rfl (by kernel_rfl) (by kernel_rfl) (by kernel_rfl) (fun _ _ _ h => h) (Or.inl ⟨by rfl, ?hy48203⟩) (by assumption) ?tk48203
  case hy48203 => (intro w hSw; (try dsimp only at hSw); go_simp; (try with_reducible rfl))
  try simp only [Act.put, List.setIfInBounds_toArray, List.set_cons_zero, List.set_cons_succ]
  refine wpAnyH_take (i := 3) (oi := { dst := some 8, op := Go.Op.move (Go.Operand.tmp 0), type := 3, pos := _, after := #[], guard := none }) (v := ?vv48204) rfl (by kernel_rfl) (by kernel_rfl) (by kernel_rfl) (fun _ _ _ h => h) (Or.inl ⟨by rfl, ?hy48204⟩) (by assumption) ?tk48204
  case hy48204 => (intro w hSw; (try dsimp only at hSw); go_simp; (try with_reducible rfl))
  try simp only [Act.put, List.setIfInBounds_toArray, List.set_cons_zero, List.set_cons_succ]
  refine wpAnyH_take (i := 4) (oi := { dst := some 9, op := Go.Op.indexAddr 42 (Go.Operand.tmp 1) (Go.Operand.tmp 8), type := 0, pos := _, after := #[{ on := 3, ground := Go.Ground.data }], guard := none }) (v := ?vv48205) rfl (by kernel_rfl) (by kernel_rfl) (by kernel_rfl) (fun _ _ _ h => h) (Or.inl ⟨by rfl, ?hy48205⟩) (by assumption) ?tk48205
  case hy48205 => (intro w hSw; (try dsimp only at hSw); go_simp; (try with_reducible rfl))
  try simp only [Act.put, List.setIfInBounds_toArray, List.set_cons_zero, List.set_cons_succ]
  refine wpAnyH_take (i := 5) (oi := { dst := some 10, op := Go.Op.load 41 (Go.Operand.tmp 9), type := 41, pos := _, after := #[{ on := 4, ground := Go.Ground.data }], guard := none }) (v := ?vv48206) rfl (by kernel_rfl) (by kernel_rfl) (by kernel_rfl) (fun _ _ _ h => h) (Or.inl ⟨by rfl, ?hy48206⟩) (by assumption) ?tk48206
  case hy48206 => (intro w hSw; (try dsimp only at hSw); go_simp; (try with_reducible rfl))
  try simp only [Act.put, List.setIfInBounds_toArray, List.set_cons_zero, List.set_cons_succ]
  refine wpAnyH_take (i := 6) (oi := { dst := some 11, op := Go.Op.call { callee := Go.Callee.builtin Go.Builtin.len, args := #[Go.Operand.tmp 10], argTypes := #[41] }, type := 3, pos := _, after := #[{ on := 5, ground := Go.Ground.data }], guard := none }) (v := ?vv48207) rfl (by kernel_rfl) (by kernel_rfl) (by kernel_rfl) (fun _ _ _ h => h) (Or.inl ⟨by rfl, ?hy48207⟩) (by assumption) ?tk48207
  case hy48207 => (intro w hSw; (try dsimp only at hSw); go_simp; (try with_reducible rfl))
  try simp only [Act.put, List.setIfInBounds_toArray, List.set_cons_zero, List.set_cons_succ]
  refine wpAnyH_ready (rs := [7]) (by kernel_rfl) (by simp) ?_
  refine AllReadyH.cons (o := { dst := some 12, op := Go.Op.call { callee := Go.Callee.value (Go.Operand.func 6), args := #[Go.Operand.tmp 2, Go.Operand.tmp 11], argTypes := #[39, 3] }, type := 3, pos := _, after := #[{ on := 6, ground := Go.Ground.data }], guard := none }) rfl (fun K' hK' => ?_) AllReadyH.nil
  go_simp
  go_at_call 6
  refine hro.mono ?_
  rintro e w2 ⟨v, rfl, hv, D2, W2⟩
  have hc2 : w2.cell? ⟨G, col, none⟩ = some (.slice (some ⟨g, 0, none⟩) n c) := (World.cell?_of_block (a := ⟨G, col, none⟩) (W2.block G (World.block_lt_of_cell? _ _ hc) hGB)).trans hc
  have hg2 : ∀ j, j < n → w2.cell? ⟨g, j, none⟩ = some (.int .i64 (pv j : Int)) := fun j hj => (World.cell?_of_block (a := ⟨g, j, none⟩) (W2.block g (World.block_lt_of_cell? _ _ (hg j hj)) hgB)).trans (hg j hj)
  have HX := hideIt (And.intro D2 W2)
  have v0 : (0 : Int) ≤ v := by omega
  have v1 : (v : Int) < (n : Int) := by omega
  clear D2 W2 hro
  clear hHeld
  refine hK'.out _ _ ⟨hc2, hg2⟩ (fun hHeld => ?_)
  clear hK' K'
  try simp only [Act.put, List.setIfInBounds_toArray, List.set_cons_zero, List.set_cons_succ]
  refine wpAnyH_take (i := 8) (oi := { dst := some 13, op := Go.Op.indexAddr 41 (Go.Operand.tmp 7) (Go.Operand.tmp 12), type := 0, pos := _, after := #[{ on := 2, ground := Go.Ground.data }, { on := 7, ground := Go.Ground.data }], guard := none }) (v := ?vv48208) rfl (by kernel_rfl) (by kernel_rfl) (by kernel_rfl) (fun _ _ _ h => h) (Or.inl ⟨by rfl, ?hy48208⟩) (by assumption) ?tk48208
  case hy48208 => (intro w hSw; (try dsimp only at hSw); go_simp; (try with_reducible rfl))
  try simp only [Act.put, List.setIfInBounds_toArray, List.set_cons_zero, List.set_cons_succ]
  refine wpAnyH_take (i := 9) (oi := { dst := some 14, op := Go.Op.load 3 (Go.Operand.tmp 13), type := 3, pos := _, after := #[{ on := 8, ground := Go.Ground.data }], guard := none }) (v := ?vv48209) rfl (by kernel_rfl) (by kernel_rfl) (by kernel_rfl) (fun _ _ _ h => h) (Or.inl ⟨by rfl, ?hy48209⟩) (by assumption) ?tk48209
  case hy48209 => (intro w hSw; have hz := hSw.2 v hv; (try dsimp only at hSw); go_simp; (try with_reducible rfl))
  try simp only [Act.put, List.setIfInBounds_toArray, List.set_cons_zero, List.set_cons_succ]
  refine wpAnyH_take (i := 10) (oi := { dst := some 4, op := Go.Op.assign (Go.Operand.tmp 14), type := 3, pos := _, after := #[{ on := 9, ground := Go.Ground.data }, { on := 7, ground := Go.Ground.chain }, { on := 0, ground := Go.Ground.phase }, { on := 1, ground := Go.Ground.phase }, { on := 2, ground := Go.Ground.phase }, { on := 3, ground := Go.Ground.phase }, { on := 4, ground := Go.Ground.phase }, { on := 5, ground := Go.Ground.phase }, { on := 6, ground := Go.Ground.phase }, { on := 7, ground := Go.Ground.phase }, { on := 8, ground := Go.Ground.phase }, { on := 9, ground := Go.Ground.phase }], guard := none }) (v := ?vv48210) rfl (by kernel_rfl) (by kernel_rfl) (by kernel_rfl) (fun _ _ _ h => h) (Or.inl ⟨by rfl, ?hy48210⟩) (by assumption) ?tk48210
  case hy48210 => (intro w hSw; (try dsimp only at hSw); go_simp; (try with_reducible rfl))
  try simp only [Act.put, List.setIfInBounds_toArray, List.set_cons_zero, List.set_cons_succ]
  refine wpAnyH_done (by kernel_rfl) ?_ _
  go_wp2
  go_ret
  obtain ⟨D2, W2⟩ := HX.out
  exact ⟨pv v, rfl, HP.out v hv, D2, ⟨W2.os, W2.tape, W2.output, W2.size, W2.block⟩⟩
end Go.Proofs.Qxb6500880aGreat
