import Derived.Test.Qxb6500877aGreatDoorIb
set_option linter.unusedVariables false
set_option linter.unusedSimpArgs false
namespace Go.Proofs.Qxb6500877aGreatDoor
open Go.RowKit

theorem exec_index_str {w : World} {ev : Operand → Value} {o : Oper} (x y : Operand) (hop : o.op = .index 9 x y) {s : ByteArray} {k : IntKind} {i : Nat} (hx : ev x = .string s) (hy : ev y = .int k (i : Int)) (hi : i < s.size) : (execOp ev o).run Tryz.prog w = .ok (.value (.int .u8 ((s[i]).toNat : Int))) w := by
  have h2 : (0 : Int) ≤ (i : Int) ∧ (i : Int) < (s.size : Int) := by omega
  have h1 : (Instr.index 9 (.string s) (.int k (i : Int))).run Tryz.prog w = .ok (.int .u8 ((s[i]).toNat : Int)) w := by
    rw [run_index_string w 9 s k i Tryz.underlying9, dif_pos h2]
    simp only [Int.toNat_natCast]
  simp [execOp, hop, hx, hy, h1, Result.andThen]
set_option maxRecDepth 100000 in
theorem pop_size : ByteArray.size ({ data := (([0, 1, 1, 2, 1, 2, 2, 3, 1, 2, 2, 3, 2, 3, 3, 4, 1, 2, 2, 3, 2, 3, 3, 4, 2, 3, 3, 4, 3, 4, 4, 5, 1, 2, 2, 3, 2, 3, 3, 4, 2, 3, 3, 4, 3, 4, 4, 5, 2, 3, 3, 4, 3, 4, 4, 5, 3, 4, 4, 5, 4, 5, 5, 6].append [1, 2, 2, 3, 2, 3, 3, 4, 2, 3, 3, 4, 3, 4, 4, 5, 2, 3, 3, 4, 3, 4, 4, 5, 3, 4, 4, 5, 4, 5, 5, 6, 2, 3, 3, 4, 3, 4, 4, 5, 3, 4, 4, 5, 4, 5, 5, 6, 3, 4, 4, 5, 4, 5, 5, 6, 4, 5, 5, 6, 5, 6, 6, 7]).append ([1, 2, 2, 3, 2, 3, 3, 4, 2, 3, 3, 4, 3, 4, 4, 5, 2, 3, 3, 4, 3, 4, 4, 5, 3, 4, 4, 5, 4, 5, 5, 6, 2, 3, 3, 4, 3, 4, 4, 5, 3, 4, 4, 5, 4, 5, 5, 6, 3, 4, 4, 5, 4, 5, 5, 6, 4, 5, 5, 6, 5, 6, 6, 7].append [2, 3, 3, 4, 3, 4, 4, 5, 3, 4, 4, 5, 4, 5, 5, 6, 3, 4, 4, 5, 4, 5, 5, 6, 4, 5, 5, 6, 5, 6, 6, 7, 3, 4, 4, 5, 4, 5, 5, 6, 4, 5, 5, 6, 5, 6, 6, 7, 4, 5, 5, 6, 5, 6, 6, 7, 5, 6, 6, 7, 6, 7, 7, 8])).toArray }) = 256 := by kernel_rfl
theorem byte_sum (a b : UInt8) : ∃ n : Nat, n ≤ 255 ∧ IntKind.i64.wrap (IntKind.u8.wrap ((a.toNat : Int) + (b.toNat : Int))) = n := by
  refine ⟨(a.toNat + b.toNat) % 256, by omega, ?_⟩
  rw [IntKind.wrap_u8, IntKind.wrap_i64]
  omega
set_option maxHeartbeats 8000000 in
theorem ones_region {ps : String} (s : ByteArray) (hs : s.size = 256) {b : Nat} (hb : b < 65536) {w : World} {K : Act → World → Prop} {R : Ending → World → Prop} (hQ : ∀ (n : Nat) (v3 v4 v5 v6 v7 v8 v9 v10 : Value), n ≤ 255 → K { tmps := #[.int .u16 (b : Int), undef, .int .i64 (n : Int), v3, v4, v5, v6, v7, v8, v9, v10], defers := [] } w.drew) :
    (Code.region 1 #[{ dst := some 3, op := Go.Op.move (Go.Operand.tmp 0), type := 173, pos := ps, after := #[], guard := none }, { dst := some 4, op := Go.Op.binOp Go.BinOp.shr 173 (Go.Operand.tmp 3) (Go.Operand.const (Go.Value.int Go.IntKind.u64 8)) 275, type := 173, pos := ps, after := #[{ on := 0, ground := Go.Ground.data }], guard := none }, { dst := some 5, op := Go.Op.index 9 (Go.Operand.const (Go.Value.string s)) (Go.Operand.tmp 4), type := 5, pos := ps, after := #[{ on := 1, ground := Go.Ground.data }], guard := none }, { dst := some 6, op := Go.Op.move (Go.Operand.tmp 0), type := 173, pos := ps, after := #[], guard := none }, { dst := some 7, op := Go.Op.binOp Go.BinOp.and 173 (Go.Operand.tmp 6) (Go.Operand.const (Go.Value.int Go.IntKind.u16 255)) 173, type := 173, pos := ps, after := #[{ on := 3, ground := Go.Ground.data }], guard := none }, { dst := some 8, op := Go.Op.index 9 (Go.Operand.const (Go.Value.string s)) (Go.Operand.tmp 7), type := 5, pos := ps, after := #[{ on := 4, ground := Go.Ground.data }], guard := none }, { dst := some 9, op := Go.Op.binOp Go.BinOp.add 5 (Go.Operand.tmp 5) (Go.Operand.tmp 8) 5, type := 5, pos := ps, after := #[{ on := 2, ground := Go.Ground.data }, { on := 5, ground := Go.Ground.data }], guard := none }, { dst := some 10, op := Go.Op.convert 5 3 (Go.Operand.tmp 9), type := 3, pos := ps, after := #[{ on := 6, ground := Go.Ground.data }], guard := none }, { dst := some 2, op := Go.Op.assign (Go.Operand.tmp 10), type := 3, pos := ps, after := #[{ on := 7, ground := Go.Ground.data }, { on := 0, ground := Go.Ground.phase }, { on := 1, ground := Go.Ground.phase }, { on := 2, ground := Go.Ground.phase }, { on := 3, ground := Go.Ground.phase }, { on := 4, ground := Go.Ground.phase }, { on := 5, ground := Go.Ground.phase }, { on := 6, ground := Go.Ground.phase }, { on := 7, ground := Go.Ground.phase }], guard := none }] true).wp Tryz.prog (Exit.then K (bodyPost Tryz.prog Tryz.f173 R)) { tmps := #[.int .u16 (b : Int), undef, .int .i64 0, undef, undef, undef, undef, undef, undef, undef, undef], defers := [] } w := by
  have hq : ∃ q : Nat, q < 256 ∧ (b : Int) / 256 = (q : Int) := ⟨b / 256, by omega, by omega⟩
  obtain ⟨q, hq1, e1⟩ := hq
  have hr : ∃ r : Nat, r < 256 ∧ bits .and .u16 (b : Int) 255 = (r : Int) := ⟨b % 256, by omega, by
    have := u16_and_nat b 255 hb (by omega)
    rw [show ((255 : Nat) : Int) = 255 from rfl] at this
    rw [this, show (255 : Nat) = 2 ^ 8 - 1 from rfl, Nat.and_two_pow_sub_one_eq_mod]⟩
  obtain ⟨r, hr1, e2⟩ := hr
  refine wp_region_held_drew (S := (fun _ => True)) (by kernel_rfl) trivial (fun hHeld => ?_)
  refine wpAnyH_take (i := 0) (oi := { dst := some 3, op := Go.Op.move (Go.Operand.tmp 0), type := 173, pos := _, after := #[], guard := none }) (v := ?vv1) rfl (by kernel_rfl) (by kernel_rfl) (by kernel_rfl) (fun _ _ _ h => h) (Or.inl ⟨by rfl, ?hy1⟩) (by assumption) ?tk1
  case hy1 => (intro w hSw; (try dsimp only at hSw); go_simp; (try with_reducible rfl))
  try simp only [Act.put, List.setIfInBounds_toArray, List.set_cons_zero, List.set_cons_succ]
  refine wpAnyH_take (i := 1) (oi := { dst := some 4, op := Go.Op.binOp Go.BinOp.shr 173 (Go.Operand.tmp 3) (Go.Operand.const (Go.Value.int Go.IntKind.u64 8)) 275, type := 173, pos := _, after := #[{ on := 0, ground := Go.Ground.data }], guard := none }) (v := ?vv2) rfl (by kernel_rfl) (by kernel_rfl) (by kernel_rfl) (fun _ _ _ h => h) (Or.inl ⟨by rfl, ?hy2⟩) (by assumption) ?tk2
  case hy2 => (intro w hSw; (try dsimp only at hSw); go_simp; (try with_reducible rfl))
  try simp only [Act.put, List.setIfInBounds_toArray, List.set_cons_zero, List.set_cons_succ]
  refine wpAnyH_take (i := 2) (oi := { dst := some 5, op := Go.Op.index 9 (Go.Operand.const (Go.Value.string s)) (Go.Operand.tmp 4), type := 5, pos := _, after := #[{ on := 1, ground := Go.Ground.data }], guard := none }) (v := ?vv3) rfl (by kernel_rfl) (by kernel_rfl) (by kernel_rfl) (fun _ _ _ h => h) (Or.inl ⟨by rfl, ?hy3⟩) (by assumption) ?tk3
  case hy3 => (intro w hSw; refine exec_index_str (s := s) (k := .u16) (i := q) (.const (.string s)) (.tmp 4) ?_ ?_ ?_ (by rw [hs]; exact hq1) <;> rfl)
  try simp only [Act.put, List.setIfInBounds_toArray, List.set_cons_zero, List.set_cons_succ]
  refine wpAnyH_take (i := 3) (oi := { dst := some 6, op := Go.Op.move (Go.Operand.tmp 0), type := 173, pos := _, after := #[], guard := none }) (v := ?vv4) rfl (by kernel_rfl) (by kernel_rfl) (by kernel_rfl) (fun _ _ _ h => h) (Or.inl ⟨by rfl, ?hy4⟩) (by assumption) ?tk4
  case hy4 => (intro w hSw; (try dsimp only at hSw); go_simp; (try with_reducible rfl))
  try simp only [Act.put, List.setIfInBounds_toArray, List.set_cons_zero, List.set_cons_succ]
  refine wpAnyH_take (i := 4) (oi := { dst := some 7, op := Go.Op.binOp Go.BinOp.and 173 (Go.Operand.tmp 6) (Go.Operand.const (Go.Value.int Go.IntKind.u16 255)) 173, type := 173, pos := _, after := #[{ on := 3, ground := Go.Ground.data }], guard := none }) (v := ?vv5) rfl (by kernel_rfl) (by kernel_rfl) (by kernel_rfl) (fun _ _ _ h => h) (Or.inl ⟨by rfl, ?hy5⟩) (by assumption) ?tk5
  case hy5 => (intro w hSw; (try dsimp only at hSw); go_simp; (try with_reducible rfl))
  try simp only [Act.put, List.setIfInBounds_toArray, List.set_cons_zero, List.set_cons_succ]
  refine wpAnyH_take (i := 5) (oi := { dst := some 8, op := Go.Op.index 9 (Go.Operand.const (Go.Value.string s)) (Go.Operand.tmp 7), type := 5, pos := _, after := #[{ on := 4, ground := Go.Ground.data }], guard := none }) (v := ?vv6) rfl (by kernel_rfl) (by kernel_rfl) (by kernel_rfl) (fun _ _ _ h => h) (Or.inl ⟨by rfl, ?hy6⟩) (by assumption) ?tk6
  case hy6 => (intro w hSw; refine exec_index_str (s := s) (k := .u16) (i := r) (.const (.string s)) (.tmp 7) ?_ ?_ ?_ (by rw [hs]; exact hr1) <;> rfl)
  try simp only [Act.put, List.setIfInBounds_toArray, List.set_cons_zero, List.set_cons_succ]
  refine wpAnyH_take (i := 6) (oi := { dst := some 9, op := Go.Op.binOp Go.BinOp.add 5 (Go.Operand.tmp 5) (Go.Operand.tmp 8) 5, type := 5, pos := _, after := #[{ on := 2, ground := Go.Ground.data }, { on := 5, ground := Go.Ground.data }], guard := none }) (v := ?vv7) rfl (by kernel_rfl) (by kernel_rfl) (by kernel_rfl) (fun _ _ _ h => h) (Or.inl ⟨by rfl, ?hy7⟩) (by assumption) ?tk7
  case hy7 => (intro w hSw; (try dsimp only at hSw); go_simp; (try with_reducible rfl))
  try simp only [Act.put, List.setIfInBounds_toArray, List.set_cons_zero, List.set_cons_succ]
  refine wpAnyH_take (i := 7) (oi := { dst := some 10, op := Go.Op.convert 5 3 (Go.Operand.tmp 9), type := 3, pos := _, after := #[{ on := 6, ground := Go.Ground.data }], guard := none }) (v := ?vv8) rfl (by kernel_rfl) (by kernel_rfl) (by kernel_rfl) (fun _ _ _ h => h) (Or.inl ⟨by rfl, ?hy8⟩) (by assumption) ?tk8
  case hy8 => (intro w hSw; (try dsimp only at hSw); go_simp; (try with_reducible rfl))
  try simp only [Act.put, List.setIfInBounds_toArray, List.set_cons_zero, List.set_cons_succ]
  refine wpAnyH_take (i := 8) (oi := { dst := some 2, op := Go.Op.assign (Go.Operand.tmp 10), type := 3, pos := _, after := #[{ on := 7, ground := Go.Ground.data }, { on := 0, ground := Go.Ground.phase }, { on := 1, ground := Go.Ground.phase }, { on := 2, ground := Go.Ground.phase }, { on := 3, ground := Go.Ground.phase }, { on := 4, ground := Go.Ground.phase }, { on := 5, ground := Go.Ground.phase }, { on := 6, ground := Go.Ground.phase }, { on := 7, ground := Go.Ground.phase }], guard := none }) (v := ?vv9) rfl (by kernel_rfl) (by kernel_rfl) (by kernel_rfl) (fun _ _ _ h => h) (Or.inl ⟨by rfl, ?hy9⟩) (by assumption) ?tk9
  case hy9 => (intro w hSw; (try dsimp only at hSw); go_simp; (try with_reducible rfl))
  try simp only [Act.put, List.setIfInBounds_toArray, List.set_cons_zero, List.set_cons_succ]
  refine wpAnyH_done (by kernel_rfl) ?_ _
  obtain ⟨n, hn, en⟩ := byte_sum s[q] s[r]
  rw [en]
  exact hQ n _ _ _ _ _ _ _ _ hn
set_option maxRecDepth 100000 in
set_option maxHeartbeats 8000000 in
theorem ones16 {b : Nat} (hb : b < 65536) (w : World) : Calls Tryz.prog 173 #[.int .u16 (b : Int)] w fun e w' => ∃ n : Nat, n ≤ 255 ∧ e = .returned (.int .i64 (n : Int)) ∧ Below w.heap.size w w' := by
  go_enter Tryz.func173, Tryz.ntmps173
  go_upto_region 1 with fail
  refine ones_region _ pop_size hb ?_
  intro n v3 v4 v5 v6 v7 v8 v9 v10 hn
  go_wp2
  go_ret
  exact ⟨n, hn, rfl, below_dr (Below.refl _ _)⟩
end Go.Proofs.Qxb6500877aGreatDoor
