import Derived.Deep.CutBlock
import Derived.OwnWalk
import Derived.Maps.AppendAt
import Derived.Maps.OwnSet
import Derived.Maps.OwnOps
import Derived.Laws.ResultCell
import Derived.Laws.AppendOwnNone
import Derived.Test.Qxb6500880aZs
set_option linter.unusedVariables false
set_option linter.unusedSimpArgs false
namespace Go.Proofs.Qxb6500880a
open Go.RowKit

theorem SDone.keep {w w' : World} {lo E hb B : Nat} {mv : Value} {nmh : ByteArray} (h : SDone w lo E hb B mv nmh) (hk : ∀ q, q < w.heap.size → (q = E ∨ q = hb ∨ lo ≤ q) → w'.heap[q]? = w.heap[q]?) : SDone w' lo E hb B mv nmh := by
  refine ⟨fun hB => ?_, fun hB => ?_⟩
  · obtain ⟨h1, sh', K, hq⟩ := h.t hB
    exact ⟨(World.cell?_of_block (a := ⟨E, 6, none⟩) (hk E (World.block_lt_of_cell? _ _ h1) (.inl rfl))).trans h1, sh', K.keep (fun q z => hk q (K.lt z) (by rcases z with z | z; exact .inr (.inr (hq q z)); exact .inr (.inl z))), hq⟩
  · have h1 := h.f hB
    exact (World.cell?_of_block (a := ⟨E, 6, none⟩) (hk E (World.block_lt_of_cell? _ _ h1) (.inl rfl))).trans h1
set_option maxRecDepth 20000 in
set_option maxHeartbeats 8000000 in
theorem run_go {w : World} {ρ : Rl} {E GR GC RL cr B LB cl gl cgl : Nat} {mv : Value} {c : Nat → Value} {nmh nmr : ByteArray} {sh sr : RelS} {f : Nat → Int} {kn : Nat → Bool} (R : Rdy w ρ E GR GC RL cr B c nmh nmr sh sr f kn) (c6 : c 6 = mv) (c7 : c 7 = .slice (some ⟨LB, 0, none⟩) 1 cl) (c8 : c 8 = .int .i64 0) (c9 : c 9 = .int .u8 0) (c10 : c 10 = .int .i64 0) (c11 : c 11 = .int .i64 0) (hL : w.cell? ⟨LB, 0, none⟩ = some (.slice (some ⟨gl, 0, none⟩) 1 cgl)) (hg : w.cell? ⟨gl, 0, none⟩ = some (.pointer (some ⟨ρ.RB, 0, none⟩))) :
    Calls Try.prog 7 #[.pointer (some ⟨E, 0, none⟩)] w fun e w' => e = .returned (.agg #[.int .u8 (codeV B), .int .i64 0, .int .i64 0]) ∧ SDone w' (w.heap.size + 1) E ρ.hb B mv nmh ∧ Ws (fun q => q = GC ∨ q = E ∨ q = ρ.hb ∨ q = ρ.rb) w w' := by
  have bA := one_alloc w (.cells #[.int .u8 0, .int .i64 0, .int .i64 0] 45)
  have hsp := step_go (R.below bA) c6 c7 c8 c9 c10 c11 (cell_later bA hL) (cell_later bA hg)
  have a0 : (w.alloc (.cells #[.int .u8 0, .int .i64 0, .int .i64 0] 45)).cell? ⟨w.heap.size, 0, none⟩ = some (.int .u8 0) := by simp
  have a1 : (w.alloc (.cells #[.int .u8 0, .int .i64 0, .int .i64 0] 45)).cell? ⟨w.heap.size, 1, none⟩ = some (.int .i64 0) := by simp
  have a2 : (w.alloc (.cells #[.int .u8 0, .int .i64 0, .int .i64 0] 45)).cell? ⟨w.heap.size, 2, none⟩ = some (.int .i64 0) := by simp
  have af : ∀ o, (w.alloc (.cells #[.int .u8 0, .int .i64 0, .int .i64 0] 45)).frozen? ⟨w.heap.size, o, none⟩ = false := fun o => by simp
  have hA : (w.alloc (.cells #[.int .u8 0, .int .i64 0, .int .i64 0] 45)).heap.size = w.heap.size + 1 := by simp
  have hEl := R.eng.lt
  have hGw : GC < w.heap.size := World.block_lt_of_cell? _ _ (R.cn 0 R.ru.m0).c0
  have hhw := R.hh.lt
  have hrw := R.rr.lt
  rw [hA] at hsp
  obtain ⟨cv, hcv⟩ : ∃ cv, codeV B = cv := ⟨_, rfl⟩
  rw [hcv] at hsp
  rw [hcv]
  have HQ := hideIt (And.intro bA (And.intro a0 (And.intro a1 (And.intro a2 (And.intro af hA)))))
  clear bA a0 a1 a2 af hA R hL hg c6 c7 c8 c9 c10 c11 hcv
  go_enter Try.func7, Try.ntmps7
  go_wp2_with fail
  generalize w.alloc (.cells #[.int .u8 0, .int .i64 0, .int .i64 0] 45) = w1 at *
  go_loopg [] 0 (fun gg wr => wr = w1)
  case atStart => exact rfl
  case round =>
    have ew := hrel.symm
    subst ew
    go_wp2_with fail
    refine hsp.mono ?_
    rintro e w5 ⟨rfl, S5, W5⟩
    obtain ⟨bA, a0, a1, a2, af, hA⟩ := HQ.out
    have kz := W5.block w.heap.size (by omega) (fun e => by rcases e with e | e | e | e <;> omega)
    have z0 := (World.cell?_of_block (a := ⟨w.heap.size, 0, none⟩) kz).trans a0
    have z1 := (World.cell?_of_block (a := ⟨w.heap.size, 1, none⟩) kz).trans a1
    have z2 := (World.cell?_of_block (a := ⟨w.heap.size, 2, none⟩) kz).trans a2
    have zf : ∀ o, w5.frozen? ⟨w.heap.size, o, none⟩ = false := fun o => (World.frozen?_of_block (a := ⟨w.heap.size, o, none⟩) kz).trans (af o)
    have hs5 := W5.size
    have bN := one_alloc w5 (.cells #[.int .u8 cv, .int .i64 0, .int .i64 0] 45)
    have y0 := cell_later bN z0
    have y1 := cell_later bN z1
    have y2 := cell_later bN z2
    have hw5 : w.heap.size < w5.heap.size := by omega
    have yf : ∀ o, (w5.alloc (.cells #[.int .u8 cv, .int .i64 0, .int .i64 0] 45)).frozen? ⟨w.heap.size, o, none⟩ = false := fun o => (World.frozen?_of_block (a := ⟨w.heap.size, o, none⟩) (bN.block _ hw5)).trans (zf o)
    have n0 : (w5.alloc (.cells #[.int .u8 cv, .int .i64 0, .int .i64 0] 45)).cell? ⟨w5.heap.size, 0, none⟩ = some (.int .u8 cv) := by simp
    have n1 : (w5.alloc (.cells #[.int .u8 cv, .int .i64 0, .int .i64 0] 45)).cell? ⟨w5.heap.size, 1, none⟩ = some (.int .i64 0) := by simp
    have n2 : (w5.alloc (.cells #[.int .u8 cv, .int .i64 0, .int .i64 0] 45)).cell? ⟨w5.heap.size, 2, none⟩ = some (.int .i64 0) := by simp
    have hne : w.heap.size ≠ w5.heap.size := by omega
    have S6 : SDone (w5.alloc (.cells #[.int .u8 cv, .int .i64 0, .int .i64 0] 45)) (w.heap.size + 1) E ρ.hb B mv nmh := S5.keep (fun q h1 _ => bN.block q h1)
    have W6 : Ws (fun q => q = GC ∨ q = E ∨ q = ρ.hb ∨ q = ρ.rb) w (w5.alloc (.cells #[.int .u8 cv, .int .i64 0, .int .i64 0] 45)) := ((Ws.of_below bA).trans W5).below bN
    have HX := hideIt (And.intro S6 W6)
    clear S5 W5 bA a0 a1 a2 af hA kz z0 z1 z2 zf hs5 bN S6 W6 hsp
    go_upto_region 2 with fail
    generalize hp : w5.heap.size = p5 at *
    generalize w5.alloc (.cells #[.int .u8 cv, .int .i64 0, .int .i64 0] 45) = w6 at *
    go_wp2
    refine bodyPost_ret (v := .agg #[.int .u8 cv, .int .i64 0, .int .i64 0]) ?_ rfl ?_
    · rw [results_one_cell rfl]
      go_simp
    · obtain ⟨S6, W6⟩ := HX.out
      refine ⟨rfl, S6.keep (fun q h1 h2 => ?_), ((W6.set (.inr (Nat.le_refl _))).set (.inr (Nat.le_refl _))).set (.inr (Nat.le_refl _))⟩
      have HH : q ≠ w.heap.size := by omega
      exact (far_set HH).trans ((far_set HH).trans (far_set HH))
theorem results_tmp3 {fn : Func} {a b c : Tmp} (h : fn.results = #[.tmp a, .tmp b, .tmp c]) (tmps : Array Value) (P : Program) (w : World) :
    (results fn tmps).run P w = .ok (.tuple #[tmps.getD a undef, tmps.getD b undef, tmps.getD c undef]) w := by
  simp only [results, h]
  simp [Sem.run_bind, Result.andThen]
theorem ckey9 (e : Bool) (s : ByteArray) (w : World) : (Instr.checkKey e 10000 9 (.string s)).run Try.prog w = .ok () w := by
  have h : ∀ d, (Instr.checkKey e (d + 1) 9 (.string s)).run Try.prog w = .ok () w := fun d => by simp [Instr.checkKey, run_underlying Try.underlying9]
  exact h 9999
theorem look_nil (w : World) (s : ByteArray) : (Instr.lookup 64 (.map none) (.string s) false).run Try.prog w = .ok (.pointer none) w := by
  have hz : (zeroValue 89).run Try.prog w = .ok (.pointer none) w := by kernel_rfl
  simp [Instr.lookup, run_underlying Try.underlying64, ckey9, hz, Instr.findKey, Instr.findNow]
set_option maxRecDepth 20000 in
set_option maxHeartbeats 8000000 in
theorem has_none {w : World} {E : Nat} {nmh : ByteArray} (h6 : w.cell? ⟨E, 6, none⟩ = some (.map none)) :
    Calls Try.prog 20 #[.pointer (some ⟨E, 0, none⟩), .agg #[.string nmh, .slice none 0 0]] w fun e w' => e = .returned (.tuple #[.pointer none, .int .i64 0, .bool false]) ∧ Below w.heap.size w w' := by
  have bA := one_alloc w (.cells #[.string nmh, .slice none 0 0] 24)
  have y6 := cell_later bA h6
  have yb : (w.alloc (.cells #[.string nmh, .slice none 0 0] 24)).cell? ⟨w.heap.size, 0, none⟩ = some (.string nmh) := by simp
  have HB := hideIt bA
  clear bA h6
  go_enter Try.func20, Try.ntmps20
  go_upto_region 1 with fail
  generalize w.alloc (.cells #[.string nmh, .slice none 0 0] 24) = w1 at *
  refine wp_region_held_drew (S := (fun w' => w'.cell? ⟨E, 6, none⟩ = some (.map none) ∧ w'.cell? ⟨w.heap.size, 0, none⟩ = some (.string nmh))) (by kernel_rfl) ⟨y6, yb⟩ (fun hHeld => ?_)
  refine wpAnyH_take (i := 0) (oi := { dst := some 14, op := Go.Op.move (Go.Operand.tmp 0), type := 43, pos := _, after := #[], guard := none }) (v := ?vv41001) rfl (by kernel_rfl) (by kernel_rfl) (by kernel_rfl) (fun _ _ _ h => h) (Or.inl ⟨by rfl, ?hy41001⟩) (by assumption) ?tk41001
  case hy41001 => (intro w hSw; (try dsimp only at hSw); go_simp; (try with_reducible rfl))
  try simp only [Act.put, List.setIfInBounds_toArray, List.set_cons_zero, List.set_cons_succ]
  refine wpAnyH_take (i := 1) (oi := { dst := some 15, op := Go.Op.nilCheck (Go.Operand.tmp 14), type := 0, pos := _, after := #[{ on := 0, ground := Go.Ground.data }], guard := none }) (v := ?vv41002) rfl (by kernel_rfl) (by kernel_rfl) (by kernel_rfl) (fun _ _ _ h => h) (Or.inl ⟨by rfl, ?hy41002⟩) (by assumption) ?tk41002
  case hy41002 => (intro w hSw; (try dsimp only at hSw); go_simp; (try with_reducible rfl))
  try simp only [Act.put, List.setIfInBounds_toArray, List.set_cons_zero, List.set_cons_succ]
  refine wpAnyH_take (i := 2) (oi := { dst := some 16, op := Go.Op.fieldAddr 75 (Go.Operand.tmp 15) 3, type := 0, pos := _, after := #[{ on := 1, ground := Go.Ground.data }], guard := none }) (v := ?vv41003) rfl (by kernel_rfl) (by kernel_rfl) (by kernel_rfl) (fun _ _ _ h => h) (Or.inl ⟨by rfl, ?hy41003⟩) (by assumption) ?tk41003
  case hy41003 => (intro w hSw; (try dsimp only at hSw); go_simp; (try with_reducible rfl))
  try simp only [Act.put, List.setIfInBounds_toArray, List.set_cons_zero, List.set_cons_succ]
  refine wpAnyH_take (i := 3) (oi := { dst := some 17, op := Go.Op.load 64 (Go.Operand.tmp 16), type := 64, pos := _, after := #[{ on := 2, ground := Go.Ground.data }], guard := none }) (v := ?vv41004) rfl (by kernel_rfl) (by kernel_rfl) (by kernel_rfl) (fun _ _ _ h => h) (Or.inl ⟨by rfl, ?hy41004⟩) (by assumption) ?tk41004
  case hy41004 => (intro w hSw; (try dsimp only at hSw); go_simp; (try with_reducible rfl))
  try simp only [Act.put, List.setIfInBounds_toArray, List.set_cons_zero, List.set_cons_succ]
  refine wpAnyH_take (i := 4) (oi := { dst := some 18, op := Go.Op.fieldAddr 24 (Go.Operand.tmp 3) 0, type := 0, pos := _, after := #[], guard := none }) (v := ?vv41005) rfl (by kernel_rfl) (by kernel_rfl) (by kernel_rfl) (fun _ _ _ h => h) (Or.inl ⟨by rfl, ?hy41005⟩) (by assumption) ?tk41005
  case hy41005 => (intro w hSw; (try dsimp only at hSw); go_simp; (try with_reducible rfl))
  try simp only [Act.put, List.setIfInBounds_toArray, List.set_cons_zero, List.set_cons_succ]
  refine wpAnyH_take (i := 5) (oi := { dst := some 19, op := Go.Op.load 9 (Go.Operand.tmp 18), type := 9, pos := _, after := #[{ on := 4, ground := Go.Ground.data }], guard := none }) (v := ?vv41006) rfl (by kernel_rfl) (by kernel_rfl) (by kernel_rfl) (fun _ _ _ h => h) (Or.inl ⟨by rfl, ?hy41006⟩) (by assumption) ?tk41006
  case hy41006 => (intro w hSw; (try dsimp only at hSw); go_simp; (try with_reducible rfl))
  try simp only [Act.put, List.setIfInBounds_toArray, List.set_cons_zero, List.set_cons_succ]
  refine wpAnyH_take (i := 6) (oi := { dst := some 20, op := Go.Op.lookup 64 (Go.Operand.tmp 17) (Go.Operand.tmp 19) false, type := 89, pos := _, after := #[{ on := 3, ground := Go.Ground.data }, { on := 5, ground := Go.Ground.data }], guard := none }) (v := ?vv41007) rfl (by kernel_rfl) (by kernel_rfl) (by kernel_rfl) (fun _ _ _ h => h) (Or.inl ⟨by rfl, ?hy41007⟩) (by assumption) ?tk41007
  case hy41007 => (intro w hSw; have hl7 := look_nil w; (try dsimp only at hSw); go_simp; (try with_reducible rfl))
  try simp only [Act.put, List.setIfInBounds_toArray, List.set_cons_zero, List.set_cons_succ]
  refine wpAnyH_take (i := 7) (oi := { dst := some 7, op := Go.Op.assign (Go.Operand.tmp 20), type := 89, pos := _, after := #[{ on := 6, ground := Go.Ground.data }, { on := 0, ground := Go.Ground.phase }, { on := 1, ground := Go.Ground.phase }, { on := 2, ground := Go.Ground.phase }, { on := 3, ground := Go.Ground.phase }, { on := 4, ground := Go.Ground.phase }, { on := 5, ground := Go.Ground.phase }, { on := 6, ground := Go.Ground.phase }], guard := none }) (v := ?vv41008) rfl (by kernel_rfl) (by kernel_rfl) (by kernel_rfl) (fun _ _ _ h => h) (Or.inl ⟨by rfl, ?hy41008⟩) (by assumption) ?tk41008
  case hy41008 => (intro w hSw; (try dsimp only at hSw); go_simp; (try with_reducible rfl))
  try simp only [Act.put, List.setIfInBounds_toArray, List.set_cons_zero, List.set_cons_succ]
  refine wpAnyH_done (by kernel_rfl) ?_ _
  clear hHeld
  go_upto_region 2 with fail
  refine wp_region_held_drew (S := (fun w' => ∀ (_ : Nat), True)) (by kernel_rfl) (fun _ => trivial) (fun hHeld => ?_)
  refine wpAnyH_take (i := 0) (oi := { dst := some 21, op := Go.Op.move (Go.Operand.tmp 7), type := 89, pos := _, after := #[], guard := none }) (v := ?vv41009) rfl (by kernel_rfl) (by kernel_rfl) (by kernel_rfl) (fun _ _ _ h => h) (Or.inl ⟨by rfl, ?hy41009⟩) (by assumption) ?tk41009
  case hy41009 => (intro w hSw; (try dsimp only at hSw); go_simp; (try with_reducible rfl))
  try simp only [Act.put, List.setIfInBounds_toArray, List.set_cons_zero, List.set_cons_succ]
  refine wpAnyH_take (i := 1) (oi := { dst := some 22, op := Go.Op.binOp Go.BinOp.eql 89 (Go.Operand.tmp 21) (Go.Operand.const (Go.Value.pointer none)) 89, type := 4, pos := _, after := #[{ on := 0, ground := Go.Ground.data }], guard := none }) (v := ?vv41010) rfl (by kernel_rfl) (by kernel_rfl) (by kernel_rfl) (fun _ _ _ h => h) (Or.inl ⟨by rfl, ?hy41010⟩) (by assumption) ?tk41010
  case hy41010 => (intro w hSw; (try dsimp only at hSw); go_simp; (try with_reducible rfl))
  try simp only [Act.put, List.setIfInBounds_toArray, List.set_cons_zero, List.set_cons_succ]
  refine wpAnyH_take (i := 2) (oi := { dst := some 23, op := Go.Op.move (Go.Operand.tmp 22), type := 4, pos := _, after := #[{ on := 1, ground := Go.Ground.data }], guard := none }) (v := ?vv41011) rfl (by kernel_rfl) (by kernel_rfl) (by kernel_rfl) (fun _ _ _ h => h) (Or.inl ⟨by rfl, ?hy41011⟩) (by assumption) ?tk41011
  case hy41011 => (intro w hSw; (try dsimp only at hSw); go_simp; (try with_reducible rfl))
  try simp only [Act.put, List.setIfInBounds_toArray, List.set_cons_zero, List.set_cons_succ]
  refine wpAnyH_take (i := 3) (oi := { dst := some 24, op := Go.Op.fieldAddr 24 (Go.Operand.tmp 3) 1, type := 0, pos := _, after := #[{ on := 2, ground := Go.Ground.guard }], guard := some (2, false) }) (v := undef) rfl (by kernel_rfl) (by kernel_rfl) (by kernel_rfl) (fun _ _ _ h => h) (Or.inr ⟨by rfl, rfl⟩) (by assumption) ?tk41012
  try simp only [Act.put, List.setIfInBounds_toArray, List.set_cons_zero, List.set_cons_succ]
  refine wpAnyH_take (i := 4) (oi := { dst := some 25, op := Go.Op.load 22 (Go.Operand.tmp 24), type := 22, pos := _, after := #[{ on := 3, ground := Go.Ground.data }, { on := 2, ground := Go.Ground.guard }], guard := some (2, false) }) (v := undef) rfl (by kernel_rfl) (by kernel_rfl) (by kernel_rfl) (fun _ _ _ h => h) (Or.inr ⟨by rfl, rfl⟩) (by assumption) ?tk41013
  try simp only [Act.put, List.setIfInBounds_toArray, List.set_cons_zero, List.set_cons_succ]
  refine wpAnyH_take (i := 5) (oi := { dst := some 26, op := Go.Op.call { callee := Go.Callee.builtin Go.Builtin.len, args := #[Go.Operand.tmp 25], argTypes := #[22] }, type := 3, pos := _, after := #[{ on := 4, ground := Go.Ground.data }, { on := 2, ground := Go.Ground.guard }], guard := some (2, false) }) (v := undef) rfl (by kernel_rfl) (by kernel_rfl) (by kernel_rfl) (fun _ _ _ h => h) (Or.inr ⟨by rfl, rfl⟩) (by assumption) ?tk41014
  try simp only [Act.put, List.setIfInBounds_toArray, List.set_cons_zero, List.set_cons_succ]
  refine wpAnyH_take (i := 6) (oi := { dst := some 27, op := Go.Op.move (Go.Operand.tmp 7), type := 89, pos := _, after := #[{ on := 2, ground := Go.Ground.guard }], guard := some (2, false) }) (v := undef) rfl (by kernel_rfl) (by kernel_rfl) (by kernel_rfl) (fun _ _ _ h => h) (Or.inr ⟨by rfl, rfl⟩) (by assumption) ?tk41015
  try simp only [Act.put, List.setIfInBounds_toArray, List.set_cons_zero, List.set_cons_succ]
  refine wpAnyH_take (i := 7) (oi := { dst := some 28, op := Go.Op.nilCheck (Go.Operand.tmp 27), type := 0, pos := _, after := #[{ on := 6, ground := Go.Ground.data }, { on := 2, ground := Go.Ground.guard }], guard := some (2, false) }) (v := undef) rfl (by kernel_rfl) (by kernel_rfl) (by kernel_rfl) (fun _ _ _ h => h) (Or.inr ⟨by rfl, rfl⟩) (by assumption) ?tk41016
  try simp only [Act.put, List.setIfInBounds_toArray, List.set_cons_zero, List.set_cons_succ]
  refine wpAnyH_take (i := 8) (oi := { dst := some 29, op := Go.Op.fieldAddr 88 (Go.Operand.tmp 28) 1, type := 0, pos := _, after := #[{ on := 7, ground := Go.Ground.data }, { on := 2, ground := Go.Ground.guard }], guard := some (2, false) }) (v := undef) rfl (by kernel_rfl) (by kernel_rfl) (by kernel_rfl) (fun _ _ _ h => h) (Or.inr ⟨by rfl, rfl⟩) (by assumption) ?tk41017
  try simp only [Act.put, List.setIfInBounds_toArray, List.set_cons_zero, List.set_cons_succ]
  refine wpAnyH_take (i := 9) (oi := { dst := some 30, op := Go.Op.load 3 (Go.Operand.tmp 29), type := 3, pos := _, after := #[{ on := 8, ground := Go.Ground.data }, { on := 2, ground := Go.Ground.guard }], guard := some (2, false) }) (v := undef) rfl (by kernel_rfl) (by kernel_rfl) (by kernel_rfl) (fun _ _ _ h => h) (Or.inr ⟨by rfl, rfl⟩) (by assumption) ?tk41018
  try simp only [Act.put, List.setIfInBounds_toArray, List.set_cons_zero, List.set_cons_succ]
  refine wpAnyH_take (i := 10) (oi := { dst := some 31, op := Go.Op.binOp Go.BinOp.neq 3 (Go.Operand.tmp 26) (Go.Operand.tmp 30) 3, type := 4, pos := _, after := #[{ on := 5, ground := Go.Ground.data }, { on := 9, ground := Go.Ground.data }, { on := 2, ground := Go.Ground.guard }], guard := some (2, false) }) (v := undef) rfl (by kernel_rfl) (by kernel_rfl) (by kernel_rfl) (fun _ _ _ h => h) (Or.inr ⟨by rfl, rfl⟩) (by assumption) ?tk41019
  try simp only [Act.put, List.setIfInBounds_toArray, List.set_cons_zero, List.set_cons_succ]
  refine wpAnyH_take (i := 11) (oi := { dst := some 32, op := Go.Op.pick (Go.Operand.tmp 23) (Go.Operand.const (Go.Value.bool true)) (Go.Operand.tmp 31), type := 4, pos := _, after := #[{ on := 2, ground := Go.Ground.data }, { on := 10, ground := Go.Ground.data }], guard := none }) (v := ?vv41020) rfl (by kernel_rfl) (by kernel_rfl) (by kernel_rfl) (fun _ _ _ h => h) (Or.inl ⟨by rfl, ?hy41020⟩) (by assumption) ?tk41020
  case hy41020 => (intro w hSw; (try dsimp only at hSw); go_simp; (try with_reducible rfl))
  try simp only [Act.put, List.setIfInBounds_toArray, List.set_cons_zero, List.set_cons_succ]
  refine wpAnyH_done (by kernel_rfl) ?_ _
  clear hHeld
  go_wp2
  refine bodyPost_ret (results_tmp3 rfl _ _ _) rfl ?_
  exact ⟨rfl, below_dr (below_dr HB.out)⟩
set_option maxRecDepth 20000 in
set_option maxHeartbeats 8000000 in
theorem has_hit {w : World} {E nb hb kk : Nat} {fn : Bool → Option Nat} {s : RelS} (h6 : w.cell? ⟨E, 6, none⟩ = some (.map (some nb))) (HN : MapN w nb kk fn) (hfn : fn false = some hb) (K : HbOk w hb (nmS false) s) :
    Calls Try.prog 20 #[.pointer (some ⟨E, 0, none⟩), .agg #[.string (nmS false), .slice none 0 0]] w fun e w' => e = .returned (.tuple #[.pointer (some ⟨hb, 0, none⟩), .int .i64 0, .bool true]) ∧ Below w.heap.size w w' := by
  obtain ⟨i9, hi9, hx0, hx1, hx2⟩ := info_parts info99
  have bA := one_alloc w (.cells #[.string (nmS false), .slice none 0 0] 24)
  have y6 := cell_later bA h6
  have yb : (w.alloc (.cells #[.string (nmS false), .slice none 0 0] 24)).cell? ⟨w.heap.size, 0, none⟩ = some (.string (nmS false)) := by simp
  have yc : (w.alloc (.cells #[.string (nmS false), .slice none 0 0] 24)).cell? ⟨w.heap.size, 1, none⟩ = some (.slice none 0 0) := by simp
  have HN1 := HN.below bA
  have K1 := K.below bA
  have yh := K1.r.ar
  rw [K.A] at yh
  have yh : (w.alloc (.cells #[.string (nmS false), .slice none 0 0] 24)).cell? ⟨hb, 1, none⟩ = some (.int .i64 0) := yh
  have HB := hideIt (And.intro bA K1)
  clear bA h6 HN K K1
  go_enter Try.func20, Try.ntmps20
  go_upto_region 1 with fail
  generalize w.alloc (.cells #[.string (nmS false), .slice none 0 0] 24) = w1 at *
  have hlk : ∀ w', w'.heap[nb]? = w1.heap[nb]? → (Instr.lookup 64 (.map (some nb)) (.string (nmS false)) false).run Try.prog w' = .ok (.pointer (some ⟨hb, 0, none⟩)) w' := fun w' e => by
    have := (HN1.blk e).look1 false
    rw [hfn] at this
    exact this
  obtain ⟨p3, hp3⟩ : ∃ p3, w.heap.size = p3 := ⟨_, rfl⟩
  rw [hp3] at yb yc
  rw [hp3]
  have HP3 := hideIt hp3
  clear hp3 HN1
  refine wp_region_held_drew (S := (fun w' => w'.cell? ⟨E, 6, none⟩ = some (.map (some nb)) ∧ w'.cell? ⟨p3, 0, none⟩ = some (.string (nmS false)) ∧ w'.heap[nb]? = w1.heap[nb]?)) (by kernel_rfl) ⟨y6, yb, rfl⟩ (fun hHeld => ?_)
  refine wpAnyH_take (i := 0) (oi := { dst := some 14, op := Go.Op.move (Go.Operand.tmp 0), type := 43, pos := _, after := #[], guard := none }) (v := ?vv41021) rfl (by kernel_rfl) (by kernel_rfl) (by kernel_rfl) (fun _ _ _ h => h) (Or.inl ⟨by rfl, ?hy41021⟩) (by assumption) ?tk41021
  case hy41021 => (intro w hSw; (try dsimp only at hSw); go_simp; (try with_reducible rfl))
  try simp only [Act.put, List.setIfInBounds_toArray, List.set_cons_zero, List.set_cons_succ]
  refine wpAnyH_take (i := 1) (oi := { dst := some 15, op := Go.Op.nilCheck (Go.Operand.tmp 14), type := 0, pos := _, after := #[{ on := 0, ground := Go.Ground.data }], guard := none }) (v := ?vv41022) rfl (by kernel_rfl) (by kernel_rfl) (by kernel_rfl) (fun _ _ _ h => h) (Or.inl ⟨by rfl, ?hy41022⟩) (by assumption) ?tk41022
  case hy41022 => (intro w hSw; (try dsimp only at hSw); go_simp; (try with_reducible rfl))
  try simp only [Act.put, List.setIfInBounds_toArray, List.set_cons_zero, List.set_cons_succ]
  refine wpAnyH_take (i := 2) (oi := { dst := some 16, op := Go.Op.fieldAddr 75 (Go.Operand.tmp 15) 3, type := 0, pos := _, after := #[{ on := 1, ground := Go.Ground.data }], guard := none }) (v := ?vv41023) rfl (by kernel_rfl) (by kernel_rfl) (by kernel_rfl) (fun _ _ _ h => h) (Or.inl ⟨by rfl, ?hy41023⟩) (by assumption) ?tk41023
  case hy41023 => (intro w hSw; (try dsimp only at hSw); go_simp; (try with_reducible rfl))
  try simp only [Act.put, List.setIfInBounds_toArray, List.set_cons_zero, List.set_cons_succ]
  refine wpAnyH_take (i := 3) (oi := { dst := some 17, op := Go.Op.load 64 (Go.Operand.tmp 16), type := 64, pos := _, after := #[{ on := 2, ground := Go.Ground.data }], guard := none }) (v := ?vv41024) rfl (by kernel_rfl) (by kernel_rfl) (by kernel_rfl) (fun _ _ _ h => h) (Or.inl ⟨by rfl, ?hy41024⟩) (by assumption) ?tk41024
  case hy41024 => (intro w hSw; (try dsimp only at hSw); go_simp; (try with_reducible rfl))
  try simp only [Act.put, List.setIfInBounds_toArray, List.set_cons_zero, List.set_cons_succ]
  refine wpAnyH_take (i := 4) (oi := { dst := some 18, op := Go.Op.fieldAddr 24 (Go.Operand.tmp 3) 0, type := 0, pos := _, after := #[], guard := none }) (v := ?vv41025) rfl (by kernel_rfl) (by kernel_rfl) (by kernel_rfl) (fun _ _ _ h => h) (Or.inl ⟨by rfl, ?hy41025⟩) (by assumption) ?tk41025
  case hy41025 => (intro w hSw; (try dsimp only at hSw); go_simp; (try with_reducible rfl))
  try simp only [Act.put, List.setIfInBounds_toArray, List.set_cons_zero, List.set_cons_succ]
  refine wpAnyH_take (i := 5) (oi := { dst := some 19, op := Go.Op.load 9 (Go.Operand.tmp 18), type := 9, pos := _, after := #[{ on := 4, ground := Go.Ground.data }], guard := none }) (v := ?vv41026) rfl (by kernel_rfl) (by kernel_rfl) (by kernel_rfl) (fun _ _ _ h => h) (Or.inl ⟨by rfl, ?hy41026⟩) (by assumption) ?tk41026
  case hy41026 => (intro w hSw; (try dsimp only at hSw); go_simp; (try with_reducible rfl))
  try simp only [Act.put, List.setIfInBounds_toArray, List.set_cons_zero, List.set_cons_succ]
  refine wpAnyH_take (i := 6) (oi := { dst := some 20, op := Go.Op.lookup 64 (Go.Operand.tmp 17) (Go.Operand.tmp 19) false, type := 89, pos := _, after := #[{ on := 3, ground := Go.Ground.data }, { on := 5, ground := Go.Ground.data }], guard := none }) (v := ?vv41027) rfl (by kernel_rfl) (by kernel_rfl) (by kernel_rfl) (fun _ _ _ h => h) (Or.inl ⟨by rfl, ?hy41027⟩) (by assumption) ?tk41027
  case hy41027 => (intro w hSw; have hl7 := hlk w hSw.2.2; (try dsimp only at hSw); go_simp; (try with_reducible rfl))
  try simp only [Act.put, List.setIfInBounds_toArray, List.set_cons_zero, List.set_cons_succ]
  refine wpAnyH_take (i := 7) (oi := { dst := some 7, op := Go.Op.assign (Go.Operand.tmp 20), type := 89, pos := _, after := #[{ on := 6, ground := Go.Ground.data }, { on := 0, ground := Go.Ground.phase }, { on := 1, ground := Go.Ground.phase }, { on := 2, ground := Go.Ground.phase }, { on := 3, ground := Go.Ground.phase }, { on := 4, ground := Go.Ground.phase }, { on := 5, ground := Go.Ground.phase }, { on := 6, ground := Go.Ground.phase }], guard := none }) (v := ?vv41028) rfl (by kernel_rfl) (by kernel_rfl) (by kernel_rfl) (fun _ _ _ h => h) (Or.inl ⟨by rfl, ?hy41028⟩) (by assumption) ?tk41028
  case hy41028 => (intro w hSw; (try dsimp only at hSw); go_simp; (try with_reducible rfl))
  try simp only [Act.put, List.setIfInBounds_toArray, List.set_cons_zero, List.set_cons_succ]
  refine wpAnyH_done (by kernel_rfl) ?_ _
  clear hHeld hlk
  go_upto_region 2 with fail
  refine wp_region_held_drew (S := (fun w' => w'.cell? ⟨p3, 1, none⟩ = some (.slice none 0 0) ∧ w'.cell? ⟨hb, 1, none⟩ = some (.int .i64 0))) (by kernel_rfl) ⟨yc, yh⟩ (fun hHeld => ?_)
  refine wpAnyH_take (i := 0) (oi := { dst := some 21, op := Go.Op.move (Go.Operand.tmp 7), type := 89, pos := _, after := #[], guard := none }) (v := ?vv41029) rfl (by kernel_rfl) (by kernel_rfl) (by kernel_rfl) (fun _ _ _ h => h) (Or.inl ⟨by rfl, ?hy41029⟩) (by assumption) ?tk41029
  case hy41029 => (intro w hSw; (try dsimp only at hSw); go_simp; (try with_reducible rfl))
  try simp only [Act.put, List.setIfInBounds_toArray, List.set_cons_zero, List.set_cons_succ]
  refine wpAnyH_take (i := 1) (oi := { dst := some 22, op := Go.Op.binOp Go.BinOp.eql 89 (Go.Operand.tmp 21) (Go.Operand.const (Go.Value.pointer none)) 89, type := 4, pos := _, after := #[{ on := 0, ground := Go.Ground.data }], guard := none }) (v := ?vv41030) rfl (by kernel_rfl) (by kernel_rfl) (by kernel_rfl) (fun _ _ _ h => h) (Or.inl ⟨by rfl, ?hy41030⟩) (by assumption) ?tk41030
  case hy41030 => (intro w hSw; (try dsimp only at hSw); go_simp; (try with_reducible rfl))
  try simp only [Act.put, List.setIfInBounds_toArray, List.set_cons_zero, List.set_cons_succ]
  refine wpAnyH_take (i := 2) (oi := { dst := some 23, op := Go.Op.move (Go.Operand.tmp 22), type := 4, pos := _, after := #[{ on := 1, ground := Go.Ground.data }], guard := none }) (v := ?vv41031) rfl (by kernel_rfl) (by kernel_rfl) (by kernel_rfl) (fun _ _ _ h => h) (Or.inl ⟨by rfl, ?hy41031⟩) (by assumption) ?tk41031
  case hy41031 => (intro w hSw; (try dsimp only at hSw); go_simp; (try with_reducible rfl))
  try simp only [Act.put, List.setIfInBounds_toArray, List.set_cons_zero, List.set_cons_succ]
  refine wpAnyH_take (i := 3) (oi := { dst := some 24, op := Go.Op.fieldAddr 24 (Go.Operand.tmp 3) 1, type := 0, pos := _, after := #[{ on := 2, ground := Go.Ground.guard }], guard := some (2, false) }) (v := ?vv41032) rfl (by kernel_rfl) (by kernel_rfl) (by kernel_rfl) (fun _ _ _ h => h) (Or.inl ⟨by rfl, ?hy41032⟩) (by assumption) ?tk41032
  case hy41032 => (intro w hSw; (try dsimp only at hSw); go_simp; (try with_reducible rfl))
  try simp only [Act.put, List.setIfInBounds_toArray, List.set_cons_zero, List.set_cons_succ]
  refine wpAnyH_take (i := 4) (oi := { dst := some 25, op := Go.Op.load 22 (Go.Operand.tmp 24), type := 22, pos := _, after := #[{ on := 3, ground := Go.Ground.data }, { on := 2, ground := Go.Ground.guard }], guard := some (2, false) }) (v := ?vv41033) rfl (by kernel_rfl) (by kernel_rfl) (by kernel_rfl) (fun _ _ _ h => h) (Or.inl ⟨by rfl, ?hy41033⟩) (by assumption) ?tk41033
  case hy41033 => (intro w hSw; (try dsimp only at hSw); go_simp; (try with_reducible rfl))
  try simp only [Act.put, List.setIfInBounds_toArray, List.set_cons_zero, List.set_cons_succ]
  refine wpAnyH_take (i := 5) (oi := { dst := some 26, op := Go.Op.call { callee := Go.Callee.builtin Go.Builtin.len, args := #[Go.Operand.tmp 25], argTypes := #[22] }, type := 3, pos := _, after := #[{ on := 4, ground := Go.Ground.data }, { on := 2, ground := Go.Ground.guard }], guard := some (2, false) }) (v := ?vv41034) rfl (by kernel_rfl) (by kernel_rfl) (by kernel_rfl) (fun _ _ _ h => h) (Or.inl ⟨by rfl, ?hy41034⟩) (by assumption) ?tk41034
  case hy41034 => (intro w hSw; (try dsimp only at hSw); go_simp; (try with_reducible rfl))
  try simp only [Act.put, List.setIfInBounds_toArray, List.set_cons_zero, List.set_cons_succ]
  refine wpAnyH_take (i := 6) (oi := { dst := some 27, op := Go.Op.move (Go.Operand.tmp 7), type := 89, pos := _, after := #[{ on := 2, ground := Go.Ground.guard }], guard := some (2, false) }) (v := ?vv41035) rfl (by kernel_rfl) (by kernel_rfl) (by kernel_rfl) (fun _ _ _ h => h) (Or.inl ⟨by rfl, ?hy41035⟩) (by assumption) ?tk41035
  case hy41035 => (intro w hSw; (try dsimp only at hSw); go_simp; (try with_reducible rfl))
  try simp only [Act.put, List.setIfInBounds_toArray, List.set_cons_zero, List.set_cons_succ]
  refine wpAnyH_take (i := 7) (oi := { dst := some 28, op := Go.Op.nilCheck (Go.Operand.tmp 27), type := 0, pos := _, after := #[{ on := 6, ground := Go.Ground.data }, { on := 2, ground := Go.Ground.guard }], guard := some (2, false) }) (v := ?vv41036) rfl (by kernel_rfl) (by kernel_rfl) (by kernel_rfl) (fun _ _ _ h => h) (Or.inl ⟨by rfl, ?hy41036⟩) (by assumption) ?tk41036
  case hy41036 => (intro w hSw; (try dsimp only at hSw); go_simp; (try with_reducible rfl))
  try simp only [Act.put, List.setIfInBounds_toArray, List.set_cons_zero, List.set_cons_succ]
  refine wpAnyH_take (i := 8) (oi := { dst := some 29, op := Go.Op.fieldAddr 88 (Go.Operand.tmp 28) 1, type := 0, pos := _, after := #[{ on := 7, ground := Go.Ground.data }, { on := 2, ground := Go.Ground.guard }], guard := some (2, false) }) (v := ?vv41037) rfl (by kernel_rfl) (by kernel_rfl) (by kernel_rfl) (fun _ _ _ h => h) (Or.inl ⟨by rfl, ?hy41037⟩) (by assumption) ?tk41037
  case hy41037 => (intro w hSw; (try dsimp only at hSw); go_simp; (try with_reducible rfl))
  try simp only [Act.put, List.setIfInBounds_toArray, List.set_cons_zero, List.set_cons_succ]
  refine wpAnyH_take (i := 9) (oi := { dst := some 30, op := Go.Op.load 3 (Go.Operand.tmp 29), type := 3, pos := _, after := #[{ on := 8, ground := Go.Ground.data }, { on := 2, ground := Go.Ground.guard }], guard := some (2, false) }) (v := ?vv41038) rfl (by kernel_rfl) (by kernel_rfl) (by kernel_rfl) (fun _ _ _ h => h) (Or.inl ⟨by rfl, ?hy41038⟩) (by assumption) ?tk41038
  case hy41038 => (intro w hSw; (try dsimp only at hSw); go_simp; (try with_reducible rfl))
  try simp only [Act.put, List.setIfInBounds_toArray, List.set_cons_zero, List.set_cons_succ]
  refine wpAnyH_take (i := 10) (oi := { dst := some 31, op := Go.Op.binOp Go.BinOp.neq 3 (Go.Operand.tmp 26) (Go.Operand.tmp 30) 3, type := 4, pos := _, after := #[{ on := 5, ground := Go.Ground.data }, { on := 9, ground := Go.Ground.data }, { on := 2, ground := Go.Ground.guard }], guard := some (2, false) }) (v := ?vv41039) rfl (by kernel_rfl) (by kernel_rfl) (by kernel_rfl) (fun _ _ _ h => h) (Or.inl ⟨by rfl, ?hy41039⟩) (by assumption) ?tk41039
  case hy41039 => (intro w hSw; (try dsimp only at hSw); go_simp; (try with_reducible rfl))
  try simp only [Act.put, List.setIfInBounds_toArray, List.set_cons_zero, List.set_cons_succ]
  refine wpAnyH_take (i := 11) (oi := { dst := some 32, op := Go.Op.pick (Go.Operand.tmp 23) (Go.Operand.const (Go.Value.bool true)) (Go.Operand.tmp 31), type := 4, pos := _, after := #[{ on := 2, ground := Go.Ground.data }, { on := 10, ground := Go.Ground.data }], guard := none }) (v := ?vv41040) rfl (by kernel_rfl) (by kernel_rfl) (by kernel_rfl) (fun _ _ _ h => h) (Or.inl ⟨by rfl, ?hy41040⟩) (by assumption) ?tk41040
  case hy41040 => (intro w hSw; (try dsimp only at hSw); go_simp; (try with_reducible rfl))
  try simp only [Act.put, List.setIfInBounds_toArray, List.set_cons_zero, List.set_cons_succ]
  refine wpAnyH_done (by kernel_rfl) ?_ _
  clear hHeld
  obtain ⟨w2, hw2⟩ : ∃ w2, w1.drew.drew = w2 := ⟨_, rfl⟩
  have b2 : Below w1.heap.size w1 w2 := by rw [← hw2]; exact below_dr (below_dr (Below.refl _ _))
  rw [hw2]
  have zc := cell_later b2 yc
  have zh := cell_later b2 yh
  have HB2 := hideIt b2
  clear hw2 b2 y6 yb yc yh
  go_wp2_with (first | (at_make; refine wpList_make_own _ rfl _ _ 72 rfl w2.heap.size 99 i9 _ 1 Try.underlying72 hi9 hx0 hx1 .i64 .i64 0 0 rfl rfl rfl (by omega) (by unfold maxLen; omega) (Nat.le_refl _) ?_) | go_in)
  intro w3 own3 grow3
  have b3 : Below w2.heap.size w2 w3 := ⟨grow3.os, grow3.tape, grow3.output, grow3.size, fun k hk => grow3.block k hk (by simp)⟩
  obtain ⟨bA, K1⟩ := HB.out
  have b23 := then_ HB2.out b3
  have K3 := K1.below b23
  have zc3 := cell_later b3 zc
  have hfi := find_hit (n := 0) (v := .slice (some ⟨w2.heap.size, 0, none⟩) 0 0) K3.r K3.ro K3.sl (if_pos rfl) ⟨_, 0, rfl, Nat.le_refl _, .inl rfl⟩ (by omega) K3.A (by rw [K3.A]; exact K3.d)
  have HB3 := hideIt (then_ bA b23)
  clear own3 grow3 b3 bA K1 b23 K3 zc zh HB HB2
  go_wp2_with fail
  go_loopg [41, 8] 0 (fun gg v v8 wr => v = .int .i64 0 ∧ v8 = .slice (some ⟨w2.heap.size, 0, none⟩) 0 0 ∧ wr = w3)
  case atStart => exact ⟨rfl, rfl, rfl⟩
  case round =>
    obtain ⟨rfl, rfl, ew⟩ := hrel
    replace ew := ew.symm
    subst ew
    go_wp2_with fail
    refine hfi.mono ?_
    rintro e w4 ⟨rfl, b4⟩
    have HB4 := hideIt b4
    clear b4 hfi
    go_wp2
    refine bodyPost_ret (results_tmp3 rfl _ _ _) rfl ?_
    exact ⟨rfl, then_ HB3.out HB4.out⟩
set_option maxRecDepth 20000 in
set_option maxHeartbeats 8000000 in
theorem has_go {w : World} {lo E nb hb kk B : Nat} {fn : Bool → Option Nat} (S : SDone w lo E hb B (.map (some nb)) (nmS false)) (HN : MapN w nb kk fn) (hfn : fn false = some hb) :
    Calls Try.prog 8 #[.pointer (some ⟨E, 0, none⟩), .agg #[.string (nmS false), .slice none 0 0]] w fun e w' => e = .returned (.bool (decide (2 ≤ B))) ∧ Below w.heap.size w w' := by
  have bA := one_alloc w (.cells #[.string (nmS false), .slice none 0 0] 24)
  have hlo : ∃ rv, Calls Try.prog 20 #[.pointer (some ⟨E, 0, none⟩), .agg #[.string (nmS false), .slice none 0 0]] (w.alloc (.cells #[.string (nmS false), .slice none 0 0] 24)) fun e w' => e = .returned (.tuple #[.pointer rv, .int .i64 0, .bool (decide (2 ≤ B))]) ∧ Below (w.alloc (.cells #[.string (nmS false), .slice none 0 0] 24)).heap.size (w.alloc (.cells #[.string (nmS false), .slice none 0 0] 24)) w' := by
    by_cases hB : 2 ≤ B
    · obtain ⟨h6, s, K, _⟩ := S.t hB
      rw [show decide (2 ≤ B) = true by simpa using hB]
      exact ⟨_, has_hit (cell_later bA h6) (HN.below bA) hfn (K.below bA)⟩
    · have h6 := S.f hB
      rw [show decide (2 ≤ B) = false by simpa using hB]
      exact ⟨_, has_none (cell_later bA h6)⟩
  obtain ⟨rv, hlo⟩ := hlo
  obtain ⟨bo, hbo⟩ : ∃ bo, decide (2 ≤ B) = bo := ⟨_, rfl⟩
  rw [hbo] at hlo
  rw [hbo]
  have HB := hideIt bA
  clear S HN hbo bA
  go_enter Try.func8, Try.ntmps8
  go_wp2_with fail
  refine hlo.mono ?_
  rintro e w2 ⟨rfl, b2⟩
  have HB2 := hideIt (then_ HB.out b2)
  clear b2 hlo
  go_wp2
  go_ret
  exact ⟨rfl, HB2.out⟩
end Go.Proofs.Qxb6500880a
