import Derived.Deep.CutBlock
import Derived.OwnWalk
import Derived.Maps.AppendAt
import Derived.Maps.OwnSet
import Derived.Maps.OwnOps
import Derived.Laws.ResultCell
import Derived.Test.Qxb6500880aNz
import Derived.Test.Qxb6500880aX
set_option linter.unusedVariables false
set_option linter.unusedSimpArgs false
namespace Go.Proofs.Qxb6500880a
open Go.RowKit

/-- The engine when the rule is in. -/
def NRule (w w9 wr : World) (E hb rb nb SB mi CB FB LB m n V base : Nat) (v5 : Value) (c9 : Nat → Value) : Prop := ∃ RB gl cgl GR GC c10 lo, EngAt wr E c10 ∧ (∀ k, k ≠ 13 → k ≠ 21 → k ≠ 22 → c10 k = c9 k) ∧ c10 21 = .slice (some ⟨GR, 0, none⟩) (min (m * n) V) (min (m * n) V) ∧ c10 22 = .slice (some ⟨GC, 0, none⟩) m m ∧ RelAt wr hb (nmS false) (rel0 0) ∧ RelAt wr rb (nmS true) (rel0 n) ∧ MapN wr nb 2 (fnF hb rb 2) ∧ wr.ownsRow base 89 1 v5 2 (xsF hb rb 2) ∧ SymsAt wr SB mi (.slice none 0 0) false ∧ wr.cell? ⟨CB, 0, none⟩ = some (.pointer (some ⟨E, 0, none⟩)) ∧ (wr.cell? ⟨FB, 0, none⟩ = some (.int .u8 0) ∧ wr.cell? ⟨FB, 1, none⟩ = some (.int .i64 0) ∧ wr.cell? ⟨FB, 2, none⟩ = some (.int .i64 0) ∧ ∀ o, wr.frozen? ⟨FB, o, none⟩ = false) ∧ wr.cell? ⟨LB, 0, none⟩ = some (.slice (some ⟨gl, 0, none⟩) 1 cgl) ∧ wr.cell? ⟨gl, 0, none⟩ = some (.pointer (some ⟨RB, 0, none⟩)) ∧ (∃ ρ : Rl, RuX wr ρ ∧ ρ.RB = RB ∧ ρ.hb = hb ∧ ρ.rb = rb ∧ ρ.n = n ∧ ρ.m = m ∧ ρ.R = min (m * n) V ∧ (ρ.F = fun j t => (j * n + t) % V) ∧ ∀ q, ρ.has q → lo ≤ q ∧ q < GR) ∧ RegZ wr GR (min (m * n) V) ∧ (∀ k, k < m → CurN wr GC k) ∧ (∀ o, wr.frozen? ⟨GC, o, none⟩ = false) ∧ Below w.heap.size w wr ∧ (w9.heap.size ≤ lo ∧ w9.heap.size ≤ gl ∧ w9.heap.size ≤ GR ∧ GR < GC ∧ lo ≤ GR ∧ LB < w9.heap.size)
theorem made_six (a b c d e f : Value) (k x : Nat) (hx : x < 6) {m : Nat} (hk : k < m) : (madeCells #[a, b, c, d, e, f] (m * 6)).toList[k * 6 + x]? = ([a, b, c, d, e, f] : List Value)[x]? := by
  have h1 : (k * 6 + x) % 6 = x := by omega
  have h2 : k * 6 + x < m * 6 := by omega
  generalize k * 6 + x = i at *
  have e9 : (madeCells #[a, b, c, d, e, f] (m * 6)).toList[i]? = some (#[a, b, c, d, e, f][i % 6]!) := by
    simp [madeCells, h2]
  rw [e9, h1]
  rcases (by omega : x = 0 ∨ x = 1 ∨ x = 2 ∨ x = 3 ∨ x = 4 ∨ x = 5) with h | h | h | h | h | h <;> (subst h; rfl)
set_option maxRecDepth 20000 in
set_option maxHeartbeats 8000000 in
theorem new_any {w : World} {gp gu gd m n V B : Nat} {bv av : Value} (IN : NewIn w gp gu gd m n V bv av) (hB : B ≤ 16777216) (hn0 : 0 < n) (hn : n ≤ 100) (hm0 : 0 < m) (hm : m ≤ 100) (hV : 0 < V) (hmn : m * n ≤ 900) (hF : n ≤ 32 → ¬ (64 < m ∨ 256 < min (m * n) V) → (n = 1 ∧ V = 1) ∨ m * n ≤ V) :
    Calls Try.prog 6 #[.agg #[.slice (some ⟨gp, 0, none⟩) 2 2, .slice (some ⟨gu, 0, none⟩) 1 1, .int .i64 1], .slice (some ⟨gd, 0, none⟩) 1 1, .agg #[.int .i64 (B : Int), .int .u8 0, .int .u64 0, .bool false]] w fun e w' => NewOut e w w' B m n V := by
  obtain ⟨i6, hi6, hz0, hz1, hz2⟩ := info_parts info68
  obtain ⟨i81, hi81, hw0, hw1, hw2⟩ := info_parts info81
  have hB0 : ¬ ((B : Int) < 0) := by omega
  have hB1 : ¬ ((B : Int) > 16777216) := by omega
  have hB2 : ¬ (16777216 < (B : Int)) := by omega
  have b1 := then_ (then_ (one_alloc w (.cells #[.slice (some ⟨gp, 0, none⟩) 2 2, .slice (some ⟨gu, 0, none⟩) 1 1, .int .i64 1] 42)) (one_alloc (w.alloc (.cells #[.slice (some ⟨gp, 0, none⟩) 2 2, .slice (some ⟨gu, 0, none⟩) 1 1, .int .i64 1] 42)) (.cells #[.int .i64 (B : Int), .int .u8 0, .int .u64 0, .bool false] 52))) (one_alloc ((w.alloc (.cells #[.slice (some ⟨gp, 0, none⟩) 2 2, .slice (some ⟨gu, 0, none⟩) 1 1, .int .i64 1] 42)).alloc (.cells #[.int .i64 (B : Int), .int .u8 0, .int .u64 0, .bool false] 52)) (.cells #[.int .u8 0, .int .i64 0, .int .i64 0] 45))
  have hs1 : (((w.alloc (.cells #[.slice (some ⟨gp, 0, none⟩) 2 2, .slice (some ⟨gu, 0, none⟩) 1 1, .int .i64 1] 42)).alloc (.cells #[.int .i64 (B : Int), .int .u8 0, .int .u64 0, .bool false] 52)).alloc (.cells #[.int .u8 0, .int .i64 0, .int .i64 0] 45)).heap.size = w.heap.size + 3 := by simp
  have n0 := cell_later (then_ (one_alloc (w.alloc (.cells #[.slice (some ⟨gp, 0, none⟩) 2 2, .slice (some ⟨gu, 0, none⟩) 1 1, .int .i64 1] 42)) (.cells #[.int .i64 (B : Int), .int .u8 0, .int .u64 0, .bool false] 52)) (one_alloc ((w.alloc (.cells #[.slice (some ⟨gp, 0, none⟩) 2 2, .slice (some ⟨gu, 0, none⟩) 1 1, .int .i64 1] 42)).alloc (.cells #[.int .i64 (B : Int), .int .u8 0, .int .u64 0, .bool false] 52)) (.cells #[.int .u8 0, .int .i64 0, .int .i64 0] 45))) (show (w.alloc (.cells #[.slice (some ⟨gp, 0, none⟩) 2 2, .slice (some ⟨gu, 0, none⟩) 1 1, .int .i64 1] 42)).cell? ⟨w.heap.size, 0, none⟩ = some (.slice (some ⟨gp, 0, none⟩) 2 2) from new_cell (by simp) _ _ 0)
  have n1 := cell_later (then_ (one_alloc (w.alloc (.cells #[.slice (some ⟨gp, 0, none⟩) 2 2, .slice (some ⟨gu, 0, none⟩) 1 1, .int .i64 1] 42)) (.cells #[.int .i64 (B : Int), .int .u8 0, .int .u64 0, .bool false] 52)) (one_alloc ((w.alloc (.cells #[.slice (some ⟨gp, 0, none⟩) 2 2, .slice (some ⟨gu, 0, none⟩) 1 1, .int .i64 1] 42)).alloc (.cells #[.int .i64 (B : Int), .int .u8 0, .int .u64 0, .bool false] 52)) (.cells #[.int .u8 0, .int .i64 0, .int .i64 0] 45))) (show (w.alloc (.cells #[.slice (some ⟨gp, 0, none⟩) 2 2, .slice (some ⟨gu, 0, none⟩) 1 1, .int .i64 1] 42)).cell? ⟨w.heap.size, 1, none⟩ = some (.slice (some ⟨gu, 0, none⟩) 1 1) from new_cell (by simp) _ _ 1)
  have n2 := cell_later (then_ (one_alloc (w.alloc (.cells #[.slice (some ⟨gp, 0, none⟩) 2 2, .slice (some ⟨gu, 0, none⟩) 1 1, .int .i64 1] 42)) (.cells #[.int .i64 (B : Int), .int .u8 0, .int .u64 0, .bool false] 52)) (one_alloc ((w.alloc (.cells #[.slice (some ⟨gp, 0, none⟩) 2 2, .slice (some ⟨gu, 0, none⟩) 1 1, .int .i64 1] 42)).alloc (.cells #[.int .i64 (B : Int), .int .u8 0, .int .u64 0, .bool false] 52)) (.cells #[.int .u8 0, .int .i64 0, .int .i64 0] 45))) (show (w.alloc (.cells #[.slice (some ⟨gp, 0, none⟩) 2 2, .slice (some ⟨gu, 0, none⟩) 1 1, .int .i64 1] 42)).cell? ⟨w.heap.size, 2, none⟩ = some (.int .i64 1) from new_cell (by simp) _ _ 2)
  have o0 := cell_later (one_alloc ((w.alloc (.cells #[.slice (some ⟨gp, 0, none⟩) 2 2, .slice (some ⟨gu, 0, none⟩) 1 1, .int .i64 1] 42)).alloc (.cells #[.int .i64 (B : Int), .int .u8 0, .int .u64 0, .bool false] 52)) (.cells #[.int .u8 0, .int .i64 0, .int .i64 0] 45)) (show ((w.alloc (.cells #[.slice (some ⟨gp, 0, none⟩) 2 2, .slice (some ⟨gu, 0, none⟩) 1 1, .int .i64 1] 42)).alloc (.cells #[.int .i64 (B : Int), .int .u8 0, .int .u64 0, .bool false] 52)).cell? ⟨w.heap.size + 1, 0, none⟩ = some (.int .i64 (B : Int)) from new_cell (by simp) _ _ 0)
  have o1 := cell_later (one_alloc ((w.alloc (.cells #[.slice (some ⟨gp, 0, none⟩) 2 2, .slice (some ⟨gu, 0, none⟩) 1 1, .int .i64 1] 42)).alloc (.cells #[.int .i64 (B : Int), .int .u8 0, .int .u64 0, .bool false] 52)) (.cells #[.int .u8 0, .int .i64 0, .int .i64 0] 45)) (show ((w.alloc (.cells #[.slice (some ⟨gp, 0, none⟩) 2 2, .slice (some ⟨gu, 0, none⟩) 1 1, .int .i64 1] 42)).alloc (.cells #[.int .i64 (B : Int), .int .u8 0, .int .u64 0, .bool false] 52)).cell? ⟨w.heap.size + 1, 1, none⟩ = some (.int .u8 0) from new_cell (by simp) _ _ 1)
  have o2 := cell_later (one_alloc ((w.alloc (.cells #[.slice (some ⟨gp, 0, none⟩) 2 2, .slice (some ⟨gu, 0, none⟩) 1 1, .int .i64 1] 42)).alloc (.cells #[.int .i64 (B : Int), .int .u8 0, .int .u64 0, .bool false] 52)) (.cells #[.int .u8 0, .int .i64 0, .int .i64 0] 45)) (show ((w.alloc (.cells #[.slice (some ⟨gp, 0, none⟩) 2 2, .slice (some ⟨gu, 0, none⟩) 1 1, .int .i64 1] 42)).alloc (.cells #[.int .i64 (B : Int), .int .u8 0, .int .u64 0, .bool false] 52)).cell? ⟨w.heap.size + 1, 2, none⟩ = some (.int .u64 0) from new_cell (by simp) _ _ 2)
  have o3 := cell_later (one_alloc ((w.alloc (.cells #[.slice (some ⟨gp, 0, none⟩) 2 2, .slice (some ⟨gu, 0, none⟩) 1 1, .int .i64 1] 42)).alloc (.cells #[.int .i64 (B : Int), .int .u8 0, .int .u64 0, .bool false] 52)) (.cells #[.int .u8 0, .int .i64 0, .int .i64 0] 45)) (show ((w.alloc (.cells #[.slice (some ⟨gp, 0, none⟩) 2 2, .slice (some ⟨gu, 0, none⟩) 1 1, .int .i64 1] 42)).alloc (.cells #[.int .i64 (B : Int), .int .u8 0, .int .u64 0, .bool false] 52)).cell? ⟨w.heap.size + 1, 3, none⟩ = some (.bool false) from new_cell (by simp) _ _ 3)
  have z0 := (show (((w.alloc (.cells #[.slice (some ⟨gp, 0, none⟩) 2 2, .slice (some ⟨gu, 0, none⟩) 1 1, .int .i64 1] 42)).alloc (.cells #[.int .i64 (B : Int), .int .u8 0, .int .u64 0, .bool false] 52)).alloc (.cells #[.int .u8 0, .int .i64 0, .int .i64 0] 45)).cell? ⟨w.heap.size + 2, 0, none⟩ = some (.int .u8 0) from new_cell (by simp) _ _ 0)
  have z1 := (show (((w.alloc (.cells #[.slice (some ⟨gp, 0, none⟩) 2 2, .slice (some ⟨gu, 0, none⟩) 1 1, .int .i64 1] 42)).alloc (.cells #[.int .i64 (B : Int), .int .u8 0, .int .u64 0, .bool false] 52)).alloc (.cells #[.int .u8 0, .int .i64 0, .int .i64 0] 45)).cell? ⟨w.heap.size + 2, 1, none⟩ = some (.int .i64 0) from new_cell (by simp) _ _ 1)
  have z2 := (show (((w.alloc (.cells #[.slice (some ⟨gp, 0, none⟩) 2 2, .slice (some ⟨gu, 0, none⟩) 1 1, .int .i64 1] 42)).alloc (.cells #[.int .i64 (B : Int), .int .u8 0, .int .u64 0, .bool false] 52)).alloc (.cells #[.int .u8 0, .int .i64 0, .int .i64 0] 45)).cell? ⟨w.heap.size + 2, 2, none⟩ = some (.int .i64 0) from new_cell (by simp) _ _ 2)
  have zf : ∀ o, ((((w.alloc (.cells #[.slice (some ⟨gp, 0, none⟩) 2 2, .slice (some ⟨gu, 0, none⟩) 1 1, .int .i64 1] 42)).alloc (.cells #[.int .i64 (B : Int), .int .u8 0, .int .u64 0, .bool false] 52)).alloc (.cells #[.int .u8 0, .int .i64 0, .int .i64 0] 45))).frozen? ⟨w.heap.size + 2, o, none⟩ = false := fun o => new_frz (by simp) _ _ _
  have HQ := hideIt (And.intro IN (And.intro b1 (And.intro hs1 (And.intro n0 (And.intro n1 (And.intro n2 (And.intro z0 (And.intro z1 (And.intro z2 (And.intro zf hF))))))))))
  clear IN b1 n0 n1 n2 z0 z1 z2 zf hF hs1
  go_enter Try.func6, Try.ntmps6
  go_upto_region 3 with fail
  generalize (((w.alloc (.cells #[.slice (some ⟨gp, 0, none⟩) 2 2, .slice (some ⟨gu, 0, none⟩) 1 1, .int .i64 1] 42)).alloc (.cells #[.int .i64 (B : Int), .int .u8 0, .int .u64 0, .bool false] 52)).alloc (.cells #[.int .u8 0, .int .i64 0, .int .i64 0] 45)) = w1 at *
  obtain ⟨NB, hNB⟩ : ∃ NB, w.heap.size = NB := ⟨_, rfl⟩
  obtain ⟨OB, hOB⟩ : ∃ OB, NB + 1 = OB := ⟨_, rfl⟩
  obtain ⟨FB, hFB⟩ : ∃ FB, OB + 1 = FB := ⟨_, rfl⟩
  rw [hNB] at o0 o1 o2 o3
  rw [hOB] at o0 o1 o2 o3
  rw [hNB, hOB, hFB]
  have HNB := hideIt (And.intro hNB (And.intro hOB hFB))
  clear hNB hOB hFB
  go_cut [8] (fun v8 wc => ∃ E SB mi nb, v8 = .pointer (some ⟨E, 0, none⟩) ∧ Hid (EngAt wc E (cI B SB nb) ∧ SymsAt wc SB mi (.slice none 0 0) false ∧ MapN wc nb 0 (fun _ => none) ∧ (w1.heap.size ≤ E ∧ w1.heap.size ≤ SB ∧ w1.heap.size ≤ mi ∧ w1.heap.size ≤ nb ∧ E ≠ SB ∧ E ≠ mi ∧ E ≠ nb ∧ SB ≠ mi ∧ SB ≠ nb ∧ mi ≠ nb) ∧ Below w1.heap.size w1 wc))
  case first =>
    have hmm := @run_makeMap Try.prog
    refine wp_region_held_drew (S := (fun w' => w'.cell? ⟨OB, 0, none⟩ = some (.int .i64 (B : Int)) ∧ w'.cell? ⟨OB, 1, none⟩ = some (.int .u8 0) ∧ w'.cell? ⟨OB, 2, none⟩ = some (.int .u64 0) ∧ w'.cell? ⟨OB, 3, none⟩ = some (.bool false))) (by kernel_rfl) ⟨o0, o1, o2, o3⟩ (fun hHeld => ?_)
    refine wpAnyH_take (i := 0) (oi := { dst := some 33, op := Go.Op.load 52 (Go.Operand.tmp 5), type := 52, pos := _, after := #[], guard := none }) (v := ?vv43044) rfl (by kernel_rfl) (by kernel_rfl) (by kernel_rfl) (fun _ _ _ h => h) (Or.inl ⟨by rfl, ?hy43044⟩) (by assumption) ?tk43044
    case hy43044 => (intro w hSw; (try dsimp only at hSw); go_simp; (try with_reducible rfl))
    try simp only [Act.put, List.setIfInBounds_toArray, List.set_cons_zero, List.set_cons_succ]
    refine wpAnyH_ready (rs := [1, 2]) (by kernel_rfl) (by simp) ?_
    refine AllReadyH.cons (o := { dst := some 34, op := Go.Op.call { callee := Go.Callee.value (Go.Operand.func 11), args := #[], argTypes := #[] }, type := 62, pos := _, after := #[], guard := none }) rfl (fun K' hK' => ?_) (AllReadyH.cons (o := { dst := some 35, op := Go.Op.makeMap 64 none, type := 64, pos := _, after := #[], guard := none }) rfl (fun K' hK' => ?_) AllReadyH.nil)
    · go_simp
      go_at_call 11
      refine (newSymbols_any _).mono ?_
      rintro e w5 ⟨SB, rfl, HS, hSB, b5⟩
      have b5' : Below w1.heap.size w1 w5 := ⟨b5.os, b5.tape, b5.output, b5.size, b5.block⟩
      have HX5 := hideIt (And.intro HS (And.intro hSB b5'))
      have p0 := cell_later b5' o0
      have p1 := cell_later b5' o1
      have p2 := cell_later b5' o2
      have p3 := cell_later b5' o3
      clear HS hSB b5 b5'
      clear hHeld
      refine hK'.out _ _ ⟨p0, p1, p2, p3⟩ (fun hHeld => ?_)
      clear hK' K'
      try simp only [Act.put, List.setIfInBounds_toArray, List.set_cons_zero, List.set_cons_succ]
      refine wpAnyH_ready (rs := [2]) (by kernel_rfl) (by simp) ?_
      refine AllReadyH.cons (o := { dst := some 35, op := Go.Op.makeMap 64 none, type := 64, pos := _, after := #[], guard := none }) rfl (fun K' hK' => ?_) AllReadyH.nil
      go_simp
      have q0 := cell_later (one_alloc w5 (.map #[] 0)) p0
      have q1 := cell_later (one_alloc w5 (.map #[] 0)) p1
      have q2 := cell_later (one_alloc w5 (.map #[] 0)) p2
      have q3 := cell_later (one_alloc w5 (.map #[] 0)) p3
      clear hHeld
      refine hK'.out _ _ ⟨q0, q1, q2, q3⟩ (fun hHeld => ?_)
      clear hK' K'
      try simp only [Act.put, List.setIfInBounds_toArray, List.set_cons_zero, List.set_cons_succ]
      refine wpAnyH_take (i := 3) (oi := { dst := some 36, op := Go.Op.build 75 #[(0, Go.Operand.tmp 33), (1, Go.Operand.tmp 34), (3, Go.Operand.tmp 35)], type := 75, pos := _, after := #[{ on := 0, ground := Go.Ground.data }, { on := 1, ground := Go.Ground.data }, { on := 2, ground := Go.Ground.data }], guard := none }) (v := ?vv43045) rfl (by kernel_rfl) (by kernel_rfl) (by kernel_rfl) (fun _ _ _ h => h) (Or.inl ⟨by rfl, ?hy43045⟩) (by assumption) ?tk43045
      case hy43045 => (intro w hSw; (try dsimp only at hSw); go_simp; (try with_reducible rfl))
      try simp only [Act.put, List.setIfInBounds_toArray, List.set_cons_zero, List.set_cons_succ]
      refine wpAnyH_ready (rs := [4]) (by kernel_rfl) (by simp) ?_
      refine AllReadyH.cons (o := { dst := some 37, op := Go.Op.box 75 (Go.Operand.tmp 36), type := 43, pos := _, after := #[{ on := 3, ground := Go.Ground.data }], guard := none }) rfl (fun K' hK' => ?_) AllReadyH.nil
      go_simp
      clear hHeld
      refine hK'.out _ _ ⟨cell_later (one_alloc _ _) q0, cell_later (one_alloc _ _) q1, cell_later (one_alloc _ _) q2, cell_later (one_alloc _ _) q3⟩ (fun hHeld => ?_)
      clear hK' K'
      try simp only [Act.put, List.setIfInBounds_toArray, List.set_cons_zero, List.set_cons_succ]
      refine wpAnyH_take (i := 5) (oi := { dst := some 8, op := Go.Op.assign (Go.Operand.tmp 37), type := 43, pos := _, after := #[{ on := 4, ground := Go.Ground.data }, { on := 1, ground := Go.Ground.chain }, { on := 0, ground := Go.Ground.phase }, { on := 1, ground := Go.Ground.phase }, { on := 2, ground := Go.Ground.phase }, { on := 3, ground := Go.Ground.phase }, { on := 4, ground := Go.Ground.phase }], guard := none }) (v := ?vv43046) rfl (by kernel_rfl) (by kernel_rfl) (by kernel_rfl) (fun _ _ _ h => h) (Or.inl ⟨by rfl, ?hy43046⟩) (by assumption) ?tk43046
      case hy43046 => (intro w hSw; (try dsimp only at hSw); go_simp; (try with_reducible rfl))
      try simp only [Act.put, List.setIfInBounds_toArray, List.set_cons_zero, List.set_cons_succ]
      refine wpAnyH_done (by kernel_rfl) ?_ _
      go_wp2
      go_meet
      case rel =>
        obtain ⟨HS, hSB, b5⟩ := HX5.out
        have bM := one_alloc w5 (.map #[] 0)
        have bE := one_alloc (w5.alloc (.map #[] 0)) (.cells #[.int .i64 (B : Int), .int .u8 0, .int .u64 0, .bool false, .pointer (some ⟨SB, 0, none⟩), .slice none 0 0, .map (some w5.heap.size), .slice none 0 0, .int .i64 0, .int .u8 0, .int .i64 0, .int .i64 0, .slice none 0 0, .slice none 0 0, .slice none 0 0, .int .i64 0, .int .i64 0, .int .i64 0, .int .i64 0, .int .i64 0, .int .i64 0, .slice none 0 0, .slice none 0 0, .slice none 0 0] 75)
        have hs5 := b5.size
        have hSBl := HS.lt
        have hsM : (w5.alloc (.map #[] 0)).heap.size = w5.heap.size + 1 := by simp
        have hsE : ((w5.alloc (.map #[] 0)).alloc (.cells #[.int .i64 (B : Int), .int .u8 0, .int .u64 0, .bool false, .pointer (some ⟨SB, 0, none⟩), .slice none 0 0, .map (some w5.heap.size), .slice none 0 0, .int .i64 0, .int .u8 0, .int .i64 0, .int .i64 0, .slice none 0 0, .slice none 0 0, .slice none 0 0, .int .i64 0, .int .i64 0, .int .i64 0, .int .i64 0, .int .i64 0, .int .i64 0, .slice none 0 0, .slice none 0 0, .slice none 0 0] 75)).heap.size = w5.heap.size + 2 := by simp
        refine ⟨w5.heap.size + 1, SB, w1.heap.size, w5.heap.size, rfl, hideIt ⟨?_, (HS.below bM).below bE, ((MapN_new w5).below bE), ?_, then_ (then_ b5 bM) bE⟩⟩
        · refine ⟨fun i hi => ?_, fun o => new_frz (by simp) _ _ _⟩
          rw [new_cell (by simp)]
          rcases (by omega : i = 0 ∨ i = 1 ∨ i = 2 ∨ i = 3 ∨ i = 4 ∨ i = 5 ∨ i = 6 ∨ i = 7 ∨ i = 8 ∨ i = 9 ∨ i = 10 ∨ i = 11 ∨ i = 12 ∨ i = 13 ∨ i = 14 ∨ i = 15 ∨ i = 16 ∨ i = 17 ∨ i = 18 ∨ i = 19 ∨ i = 20 ∨ i = 21 ∨ i = 22 ∨ i = 23) with h | h | h | h | h | h | h | h | h | h | h | h | h | h | h | h | h | h | h | h | h | h | h | h <;> (subst h; rfl)
        · have hSB' : w1.heap.size < SB := hSB
          omega
    · go_simp
      have p0 := cell_later (one_alloc w1 (.map #[] 0)) o0
      have p1 := cell_later (one_alloc w1 (.map #[] 0)) o1
      have p2 := cell_later (one_alloc w1 (.map #[] 0)) o2
      have p3 := cell_later (one_alloc w1 (.map #[] 0)) o3
      clear hHeld
      refine hK'.out _ _ ⟨p0, p1, p2, p3⟩ (fun hHeld => ?_)
      clear hK' K'
      try simp only [Act.put, List.setIfInBounds_toArray, List.set_cons_zero, List.set_cons_succ]
      refine wpAnyH_ready (rs := [1]) (by kernel_rfl) (by simp) ?_
      refine AllReadyH.cons (o := { dst := some 34, op := Go.Op.call { callee := Go.Callee.value (Go.Operand.func 11), args := #[], argTypes := #[] }, type := 62, pos := _, after := #[], guard := none }) rfl (fun K' hK' => ?_) AllReadyH.nil
      go_simp
      go_at_call 11
      refine (newSymbols_any _).mono ?_
      rintro e w5 ⟨SB, rfl, HS, hSB, b5⟩
      have b5' : Below (w1.alloc (.map #[] 0)).heap.size (w1.alloc (.map #[] 0)) w5 := ⟨b5.os, b5.tape, b5.output, b5.size, b5.block⟩
      have HX5 := hideIt (And.intro HS (And.intro hSB b5'))
      have q0 := cell_later b5' p0
      have q1 := cell_later b5' p1
      have q2 := cell_later b5' p2
      have q3 := cell_later b5' p3
      clear HS hSB b5 b5'
      clear hHeld
      refine hK'.out _ _ ⟨q0, q1, q2, q3⟩ (fun hHeld => ?_)
      clear hK' K'
      try simp only [Act.put, List.setIfInBounds_toArray, List.set_cons_zero, List.set_cons_succ]
      refine wpAnyH_take (i := 3) (oi := { dst := some 36, op := Go.Op.build 75 #[(0, Go.Operand.tmp 33), (1, Go.Operand.tmp 34), (3, Go.Operand.tmp 35)], type := 75, pos := _, after := #[{ on := 0, ground := Go.Ground.data }, { on := 1, ground := Go.Ground.data }, { on := 2, ground := Go.Ground.data }], guard := none }) (v := ?vv43047) rfl (by kernel_rfl) (by kernel_rfl) (by kernel_rfl) (fun _ _ _ h => h) (Or.inl ⟨by rfl, ?hy43047⟩) (by assumption) ?tk43047
      case hy43047 => (intro w hSw; (try dsimp only at hSw); go_simp; (try with_reducible rfl))
      try simp only [Act.put, List.setIfInBounds_toArray, List.set_cons_zero, List.set_cons_succ]
      refine wpAnyH_ready (rs := [4]) (by kernel_rfl) (by simp) ?_
      refine AllReadyH.cons (o := { dst := some 37, op := Go.Op.box 75 (Go.Operand.tmp 36), type := 43, pos := _, after := #[{ on := 3, ground := Go.Ground.data }], guard := none }) rfl (fun K' hK' => ?_) AllReadyH.nil
      go_simp
      clear hHeld
      refine hK'.out _ _ ⟨cell_later (one_alloc _ _) q0, cell_later (one_alloc _ _) q1, cell_later (one_alloc _ _) q2, cell_later (one_alloc _ _) q3⟩ (fun hHeld => ?_)
      clear hK' K'
      try simp only [Act.put, List.setIfInBounds_toArray, List.set_cons_zero, List.set_cons_succ]
      refine wpAnyH_take (i := 5) (oi := { dst := some 8, op := Go.Op.assign (Go.Operand.tmp 37), type := 43, pos := _, after := #[{ on := 4, ground := Go.Ground.data }, { on := 1, ground := Go.Ground.chain }, { on := 0, ground := Go.Ground.phase }, { on := 1, ground := Go.Ground.phase }, { on := 2, ground := Go.Ground.phase }, { on := 3, ground := Go.Ground.phase }, { on := 4, ground := Go.Ground.phase }], guard := none }) (v := ?vv43048) rfl (by kernel_rfl) (by kernel_rfl) (by kernel_rfl) (fun _ _ _ h => h) (Or.inl ⟨by rfl, ?hy43048⟩) (by assumption) ?tk43048
      case hy43048 => (intro w hSw; (try dsimp only at hSw); go_simp; (try with_reducible rfl))
      try simp only [Act.put, List.setIfInBounds_toArray, List.set_cons_zero, List.set_cons_succ]
      refine wpAnyH_done (by kernel_rfl) ?_ _
      go_wp2
      go_meet
      case rel =>
        obtain ⟨HS, hSB, b5⟩ := HX5.out
        have bM := one_alloc w1 (.map #[] 0)
        have bE := one_alloc w5 (.cells #[.int .i64 (B : Int), .int .u8 0, .int .u64 0, .bool false, .pointer (some ⟨SB, 0, none⟩), .slice none 0 0, .map (some w1.heap.size), .slice none 0 0, .int .i64 0, .int .u8 0, .int .i64 0, .int .i64 0, .slice none 0 0, .slice none 0 0, .slice none 0 0, .int .i64 0, .int .i64 0, .int .i64 0, .int .i64 0, .int .i64 0, .int .i64 0, .slice none 0 0, .slice none 0 0, .slice none 0 0] 75)
        have hs5 := b5.size
        have hSBl := HS.lt
        have hsM : (w1.alloc (.map #[] 0)).heap.size = w1.heap.size + 1 := by simp
        have hsE : (w5.alloc (.cells #[.int .i64 (B : Int), .int .u8 0, .int .u64 0, .bool false, .pointer (some ⟨SB, 0, none⟩), .slice none 0 0, .map (some w1.heap.size), .slice none 0 0, .int .i64 0, .int .u8 0, .int .i64 0, .int .i64 0, .slice none 0 0, .slice none 0 0, .slice none 0 0, .int .i64 0, .int .i64 0, .int .i64 0, .int .i64 0, .int .i64 0, .int .i64 0, .slice none 0 0, .slice none 0 0, .slice none 0 0] 75)).heap.size = w5.heap.size + 1 := by simp
        have hmi : (w1.alloc (.map #[] 0)).drew.heap.size = w1.heap.size + 1 := hsM
        rw [hmi] at HS hSB
        refine ⟨w5.heap.size, SB, w1.heap.size + 1, w1.heap.size, rfl, hideIt ⟨?_, HS.below bE, ((MapN_new w1).below b5).below bE, ?_, then_ (then_ bM b5) bE⟩⟩
        · refine ⟨fun i hi => ?_, fun o => new_frz rfl _ _ _⟩
          rw [new_cell rfl]
          rcases (by omega : i = 0 ∨ i = 1 ∨ i = 2 ∨ i = 3 ∨ i = 4 ∨ i = 5 ∨ i = 6 ∨ i = 7 ∨ i = 8 ∨ i = 9 ∨ i = 10 ∨ i = 11 ∨ i = 12 ∨ i = 13 ∨ i = 14 ∨ i = 15 ∨ i = 16 ∨ i = 17 ∨ i = 18 ∨ i = 19 ∨ i = 20 ∨ i = 21 ∨ i = 22 ∨ i = 23) with h | h | h | h | h | h | h | h | h | h | h | h | h | h | h | h | h | h | h | h | h | h | h | h <;> (subst h; rfl)
        · omega
  case rest =>
  clear o0 o1 o2 o3
  obtain ⟨E, SB, mi, nb, rfl, HZ⟩ := hcut
  obtain ⟨HE, HS, HN, hds, b1c⟩ := HZ.out
  obtain ⟨IN, b1, hs1, n0, n1, n2, z0, z1, z2, zf, hF⟩ := HQ.out
  obtain ⟨hNB, hOB, hFB⟩ := HNB.out
  rw [hNB] at n0 n1 n2 z0 z1 z2 zf hs1
  rw [show NB + 2 = FB by omega] at z0 z1 z2 zf
  have bC := one_alloc wc (.cells #[.pointer (some ⟨E, 0, none⟩), .map none] 79)
  have b15 := then_ b1c bC
  have b05 := then_ b1 b15
  have m0 := cell_later b15 n0
  have m1 := cell_later b15 n1
  have m2 := cell_later b15 n2
  have hFl : FB < w1.heap.size := by omega
  have y0 := cell_later b15 z0
  have y1 := cell_later b15 z1
  have y2 := cell_later b15 z2
  have yf : ∀ o, (wc.alloc (.cells #[.pointer (some ⟨E, 0, none⟩), .map none] 79)).frozen? ⟨FB, o, none⟩ = false := fun o => (World.frozen?_of_block (a := ⟨FB, o, none⟩) (b15.block FB hFl)).trans (zf o)
  have hc5 : (wc.alloc (.cells #[.pointer (some ⟨E, 0, none⟩), .map none] 79)).heap.size = wc.heap.size + 1 := by simp
  have hcs := b1c.size
  have k0 : (wc.alloc (.cells #[.pointer (some ⟨E, 0, none⟩), .map none] 79)).cell? ⟨wc.heap.size, 0, none⟩ = some (.pointer (some ⟨E, 0, none⟩)) := new_cell rfl _ _ 0
  have k1 : (wc.alloc (.cells #[.pointer (some ⟨E, 0, none⟩), .map none] 79)).cell? ⟨wc.heap.size, 1, none⟩ = some (.map none) := new_cell rfl _ _ 1
  have kf : ∀ o, (wc.alloc (.cells #[.pointer (some ⟨E, 0, none⟩), .map none] 79)).frozen? ⟨wc.heap.size, o, none⟩ = false := fun o => new_frz rfl _ _ _
  have PR : PredsAt (wc.alloc (.cells #[.pointer (some ⟨E, 0, none⟩), .map none] 79)) gp n := ⟨fun i hi => ⟨cell_later b05 (IN.pr.c i hi).1, cell_later b05 (IN.pr.c i hi).2.1, cell_later b05 (IN.pr.c i hi).2.2⟩⟩
  have hgpl : gp < w.heap.size := World.block_lt_of_cell? _ _ (IN.pr.c 0 (by omega)).1
  have hlt4 : SB < wc.heap.size ∧ mi < wc.heap.size ∧ E < wc.heap.size ∧ nb < wc.heap.size := ⟨HS.lt.1, HS.lt.2, HE.lt, HN.lt⟩
  have hEl := HE.lt
  have hnl := HN.lt
  have htb := table_any (rp := some ⟨gu, 0, none⟩) (rn := 1) (rc := 1) (HE.below bC) rfl rfl (HN.below bC) k0 PR ⟨by omega, by omega, by omega, by omega, by omega⟩ (by omega)
  have HY := hideIt (And.intro IN (And.intro b05 (And.intro (HE.below bC) (And.intro (HS.below bC) (And.intro hds (And.intro k0 (And.intro k1 (And.intro kf (And.intro y0 (And.intro y1 (And.intro y2 (And.intro yf (And.intro m1 (And.intro m2 (And.intro hs1 (And.intro hc5 hcs))))))))))))))))
  clear HE HS HN hds b1c IN b1 hs1 n0 n1 n2 z0 z1 z2 zf hF bC b15 b05 k0 k1 kf PR y0 y1 y2 yf hNB hOB hFB
  go_upto_region 5 with fail
  generalize hCB : wc.heap.size = CB at *
  generalize wc.alloc (.cells #[.pointer (some ⟨E, 0, none⟩), .map none] 79) = w5 at *
  go_wp2_with fail
  refine htb.mono ?_
  rintro e w6 ⟨htA, htB, W6⟩
  clear m0 m1 m2
  obtain ⟨IN, b05, HE5, HS5, hds, k0, k1, kf, y0, y1, y2, yf, m1, m2, hs1, hc5, hcs⟩ := HY.out
  have hFlt : FB < w5.heap.size := World.block_lt_of_cell? _ _ y0
  have hFne : FB ≠ E ∧ FB ≠ nb := by omega
  have kF : w6.heap[FB]? = w5.heap[FB]? := W6.block FB hFlt (fun e => by rcases e with e | e; exact hFne.1 e; exact hFne.2 e)
  have x0 := (World.cell?_of_block (a := ⟨FB, 0, none⟩) kF).trans y0
  have x1 := (World.cell?_of_block (a := ⟨FB, 1, none⟩) kF).trans y1
  have x2 := (World.cell?_of_block (a := ⟨FB, 2, none⟩) kF).trans y2
  have xf : ∀ o, w6.frozen? ⟨FB, o, none⟩ = false := fun o => (World.frozen?_of_block (a := ⟨FB, o, none⟩) kF).trans (yf o)
  have hs6 := W6.size
  obtain ⟨hNB, hOB, hFB⟩ := HNB.out
  have b06 : Below w.heap.size w w6 := ⟨W6.os.trans b05.os, W6.tape.trans b05.tape, W6.output.trans b05.output, Nat.le_trans b05.size W6.size, fun q hq => (W6.block q (by have := b05.size; omega) (fun e => by rcases e with e | e <;> omega)).trans (b05.block q hq)⟩
  by_cases hn32 : n ≤ 32
  · obtain ⟨he, hb, rb, c6, T6, hc6⟩ := htB hn32
    subst he
    obtain ⟨bp, bc, ebv, hbc, _⟩ : ∃ p c, bv = .slice p m c ∧ m ≤ c ∧ True := by obtain ⟨p, c, e, h, _⟩ := IN.bo; exact ⟨p, c, e, h, trivial⟩
    obtain ⟨Hh6, hhb, hh5⟩ := T6.h (by omega)
    obtain ⟨Hr6, hrb, hr5, hhr⟩ := T6.p (by omega)
    have bF := one_alloc w6 (.cells #[.int .u8 0, .int .i64 0, .int .i64 0] 45)
    have kkX : ∀ q, q < w5.heap.size → q ≠ E → q ≠ nb → (w6.alloc (.cells #[.int .u8 0, .int .i64 0, .int .i64 0] 45)).heap[q]? = w5.heap[q]? := fun q h1 h2 h3 => (bF.block q (by omega)).trans (W6.block q h1 (fun e => by rcases e with e | e; exact h2 e; exact h3 e))
    have e2 := (World.cell?_of_block (a := ⟨NB, 2, none⟩) (kkX NB (by omega) (by omega) (by omega))).trans m2
    have e1 := (World.cell?_of_block (a := ⟨NB, 1, none⟩) (kkX NB (by omega) (by omega) (by omega))).trans m1
    have hCl : CB < w5.heap.size := by omega
    have c0 := (World.cell?_of_block (a := ⟨CB, 0, none⟩) (kkX CB hCl (by omega) (by omega))).trans k0
    have c1 := (World.cell?_of_block (a := ⟨CB, 1, none⟩) (kkX CB hCl (by omega) (by omega))).trans k1
    have cf : ∀ o, (w6.alloc (.cells #[.int .u8 0, .int .i64 0, .int .i64 0] 45)).frozen? ⟨CB, o, none⟩ = false := fun o => (World.frozen?_of_block (a := ⟨CB, o, none⟩) (kkX CB hCl (by omega) (by omega))).trans (kf o)
    have S7 : SymsAt (w6.alloc (.cells #[.int .u8 0, .int .i64 0, .int .i64 0] 45)) SB mi (.slice none 0 0) false := HS5.keep (kkX SB HS5.lt.1 (by omega) (by omega)) (kkX mi HS5.lt.2 (by omega) (by omega))
    have T7 := T6.below bF
    have hcc7 : c6 7 = .slice none 0 0 := hc6 7 (by omega)
    have e7 := T7.e.get hcc7 (by omega)
    have ef7 := T7.e.fz
    have w0' := cell_later bF x0
    have w1' := cell_later bF x1
    have w2' := cell_later bF x2
    have wf' : ∀ o, (w6.alloc (.cells #[.int .u8 0, .int .i64 0, .int .i64 0] 45)).frozen? ⟨FB, o, none⟩ = false := fun o => (World.frozen?_of_block (a := ⟨FB, o, none⟩) (bF.block FB (by omega))).trans (xf o)
    have q0 : (w6.alloc (.cells #[.int .u8 0, .int .i64 0, .int .i64 0] 45)).cell? ⟨w6.heap.size, 0, none⟩ = some (.int .u8 0) := new_cell rfl _ _ 0
    have hs7 : (w6.alloc (.cells #[.int .u8 0, .int .i64 0, .int .i64 0] 45)).heap.size = w6.heap.size + 1 := by simp
    have b07 := then_ b06 bF
    have hszs : NB < FB ∧ FB < CB ∧ CB < w5.heap.size ∧ w5.heap.size ≤ w6.heap.size ∧ w.heap.size = NB ∧ w1.heap.size ≤ CB ∧ FB < w1.heap.size ∧ FB + 1 = w1.heap.size ∧ CB + 1 = w5.heap.size := by omega
    have H7 := hideIt (And.intro T7 (And.intro Hh6 (And.intro Hr6 (And.intro S7 (And.intro c0 (And.intro c1 (And.intro cf (And.intro w0' (And.intro w1' (And.intro w2' (And.intro wf' (And.intro b07 (And.intro IN (And.intro hc6 (And.intro hds hs7)))))))))))))))
    have HF := hideIt hn32
    have hs7' : w6.heap.size < (w6.alloc (.cells #[.int .u8 0, .int .i64 0, .int .i64 0] 45)).heap.size := by omega
    clear hs7
    clear htA htB W6 b05 HE5 HS5 k0 k1 kf y0 y1 y2 yf m1 m2 hs1 hc5 hcs kF x0 x1 x2 xf b06 bF kkX hNB hOB hFB T6 T7 Hh6 Hr6 S7 c0 c1 cf w0' w1' w2' wf' b07 hn32
    go_upto_region 6 with fail
    generalize w6.alloc (.cells #[.int .u8 0, .int .i64 0, .int .i64 0] 45) = w7 at *
    go_wp2_with (first | (at_make; refine wpList_make_full _ rfl _ _ 66 rfl w7.heap.size 68 i6 _ 1 Try.underlying66 hi6 hz0 hz1 .i64 .i64 1 1 1 rfl rfl rfl rfl (by rw [hz2]; omega) (by unfold maxLen; omega) (Nat.le_refl _) ?_) | go_in)
    intro w8 own8 grow8
    have b8 : Below w7.heap.size w7 w8 := ⟨grow8.os, grow8.tape, grow8.output, grow8.size, fun k hk => grow8.block k hk (by simp)⟩
    have hg8 : w7.heap.size < w8.heap.size := (own8.lt w7.heap.size rfl).2
    have lb8 : w8.cell? ⟨w7.heap.size, 0, none⟩ = some (.slice none 0 0) := by
      have e := own8.cellAt 0 (by omega)
      rw [made_one, List.getElem?_replicate, if_pos (by omega)] at e
      exact e
    have lf8 : ∀ o, w8.frozen? ⟨w7.heap.size, o, none⟩ = false := fun o => own8.frozenAt o
    have f7 := cell_later b8 e7
    have ff7 : ∀ o, w8.frozen? ⟨E, o, none⟩ = false := fun o => (World.frozen?_of_block (a := ⟨E, o, none⟩) (b8.block E (by obtain ⟨T7, _⟩ := H7.out; exact T7.e.lt))).trans (ef7 o)
    have f1 := cell_later b8 e1
    have H8 := hideIt b8
    clear own8 grow8 b8 e7 ef7 e1 e2 q0
    go_upto_region 9 with fail
    obtain ⟨T7, Hh6, Hr6, S7, c0, c1, cf, v0, v1, v2, vf, b07, IN, hc6, hds', hs7⟩ := H7.out
    have b8 := H8.out
    have hEl7 := T7.e.lt
    have E9 := (T7.e.below b8).put (k := 7) (by omega) (.slice (some ⟨w7.heap.size, 0, none⟩) 1 1)
    have far9 : ∀ q, q < w7.heap.size → q ≠ E → (w8.setCell ⟨E, 7, none⟩ (.slice (some ⟨w7.heap.size, 0, none⟩) 1 1)).heap[q]? = w7.heap[q]? := fun q h1 h2 => (far_set h2).trans (b8.block q h1)
    have hLE : w7.heap.size ≠ E := by omega
    have L9 : (w8.setCell ⟨E, 7, none⟩ (.slice (some ⟨w7.heap.size, 0, none⟩) 1 1)).cell? ⟨w7.heap.size, 0, none⟩ = some (.slice none 0 0) := (World.cell?_of_block (a := ⟨w7.heap.size, 0, none⟩) (far_set hLE)).trans lb8
    have Lf9 : ∀ o, (w8.setCell ⟨E, 7, none⟩ (.slice (some ⟨w7.heap.size, 0, none⟩) 1 1)).frozen? ⟨w7.heap.size, o, none⟩ = false := fun o => (World.frozen?_setCell _ _ _ _).trans (lf8 o)
    have Hh7 := (T7.h (by omega)).1
    have Hr7 := (T7.p (by omega)).1
    have hhE : hb ≠ E ∧ rb ≠ E ∧ hb < w7.heap.size ∧ rb < w7.heap.size := ⟨by omega, by omega, Hh7.lt, Hr7.lt⟩
    have Hh9 : RelAt (w8.setCell ⟨E, 7, none⟩ (.slice (some ⟨w7.heap.size, 0, none⟩) 1 1)) hb (nmS false) (rel0 0) := Hh7.blk (far9 hb hhE.2.2.1 hhE.1)
    have Hr9 : RelAt (w8.setCell ⟨E, 7, none⟩ (.slice (some ⟨w7.heap.size, 0, none⟩) 1 1)) rb (nmS true) (rel0 n) := Hr7.blk (far9 rb hhE.2.2.2 hhE.2.1)
    have M9 : MapN (w8.setCell ⟨E, 7, none⟩ (.slice (some ⟨w7.heap.size, 0, none⟩) 1 1)) nb 2 (fnF hb rb 2) := T7.m.blk (far9 nb T7.m.lt (by omega))
    have O9 : (w8.setCell ⟨E, 7, none⟩ (.slice (some ⟨w7.heap.size, 0, none⟩) 1 1)).ownsRow (w5.heap.size + 2) 89 1 (c6 5) 2 (xsF hb rb 2) := own_one T7.own (fun q hq => far9 q (T7.own.lt q hq).2 (by have := (T7.own.lt q hq).1; omega))
    have S9 : SymsAt (w8.setCell ⟨E, 7, none⟩ (.slice (some ⟨w7.heap.size, 0, none⟩) 1 1)) SB mi (.slice none 0 0) false := S7.keep (far9 SB S7.lt.1 (by omega)) (far9 mi S7.lt.2 (by omega))
    have hCl7 : CB < w7.heap.size := by omega
    have hFl7 : FB < w7.heap.size := by omega
    have c09 := (World.cell?_of_block (a := ⟨CB, 0, none⟩) (far9 CB hCl7 (by omega))).trans c0
    have c19 := (World.cell?_of_block (a := ⟨CB, 1, none⟩) (far9 CB hCl7 (by omega))).trans c1
    have cf9 : ∀ o, (w8.setCell ⟨E, 7, none⟩ (.slice (some ⟨w7.heap.size, 0, none⟩) 1 1)).frozen? ⟨CB, o, none⟩ = false := fun o => (World.frozen?_of_block (a := ⟨CB, o, none⟩) (far9 CB hCl7 (by omega))).trans (cf o)
    have f09 := (World.cell?_of_block (a := ⟨FB, 0, none⟩) (far9 FB hFl7 (by omega))).trans v0
    have f19 := (World.cell?_of_block (a := ⟨FB, 1, none⟩) (far9 FB hFl7 (by omega))).trans v1
    have f29 := (World.cell?_of_block (a := ⟨FB, 2, none⟩) (far9 FB hFl7 (by omega))).trans v2
    have ff9 : ∀ o, (w8.setCell ⟨E, 7, none⟩ (.slice (some ⟨w7.heap.size, 0, none⟩) 1 1)).frozen? ⟨FB, o, none⟩ = false := fun o => (World.frozen?_of_block (a := ⟨FB, o, none⟩) (far9 FB hFl7 (by omega))).trans (vf o)
    have hNE : NB ≠ E := by omega
    have n19 : (w8.setCell ⟨E, 7, none⟩ (.slice (some ⟨w7.heap.size, 0, none⟩) 1 1)).cell? ⟨NB, 1, none⟩ = some (.slice (some ⟨gu, 0, none⟩) 1 1) := (World.cell?_of_block (a := ⟨NB, 1, none⟩) (far_set hNE)).trans f1
    have b09 : Below w.heap.size w (w8.setCell ⟨E, 7, none⟩ (.slice (some ⟨w7.heap.size, 0, none⟩) 1 1)) := below_cell (b07.trans (b8.mono (by omega))) (by omega) _
    have hs9 : (w8.setCell ⟨E, 7, none⟩ (.slice (some ⟨w7.heap.size, 0, none⟩) 1 1)).heap.size = w8.heap.size := by simp
    have hsL : w7.heap.size < (w8.setCell ⟨E, 7, none⟩ (.slice (some ⟨w7.heap.size, 0, none⟩) 1 1)).heap.size := by omega
    have ag9 : ∀ k, k ≠ 5 → k ≠ 7 → updV c6 7 (.slice (some ⟨w7.heap.size, 0, none⟩) 1 1) k = cI B SB nb k := fun k h1 h2 => (updV_other _ _ h2).trans (hc6 k h1)
    have a59 : updV c6 7 (.slice (some ⟨w7.heap.size, 0, none⟩) 1 1) 5 = c6 5 := updV_other _ _ (by omega)
    have a79 : updV c6 7 (.slice (some ⟨w7.heap.size, 0, none⟩) 1 1) 7 = .slice (some ⟨w7.heap.size, 0, none⟩) 1 1 := updV_same _ _ _
    have HO9 := hideIt (show ∀ q, (c6 5).ownBlock = some q → q < w7.heap.size from fun q hq => (T7.own.lt q hq).2)
    clear T7 S7 c0 c1 cf v0 v1 v2 vf b07 hc6 b8 far9 Hh7 Hr7 Hh6 Hr6 H7 H8 lb8 lf8 f7 ff7 f1 hs9 hcc7 hs7
    generalize updV c6 7 (.slice (some ⟨w7.heap.size, 0, none⟩) 1 1) = c9 at *
    generalize (w8.setCell ⟨E, 7, none⟩ (.slice (some ⟨w7.heap.size, 0, none⟩) 1 1)) = w9 at *
    generalize hLB : w7.heap.size = LB at *
    have u0 := cell_later b09 IN.u0
    have u1 := cell_later b09 IN.u1
    have u2 := cell_later b09 IN.u2
    rw [ebv] at u2
    have H9 := hideIt (And.intro E9 (And.intro Hh9 (And.intro Hr9 (And.intro M9 (And.intro O9 (And.intro S9 (And.intro c09 (And.intro c19 (And.intro cf9 (And.intro f09 (And.intro f19 (And.intro f29 (And.intro ff9 (And.intro L9 (And.intro Lf9 (And.intro b09 (And.intro ag9 (And.intro a59 (And.intro a79 IN)))))))))))))))))))
    clear E9 Hh9 Hr9 M9 O9 S9 c09 c19 cf9 f09 f19 f29 ff9 L9 Lf9 b09 ag9 a59 a79
    go_wp2_with fail
    go_loopg [57] 1 (fun gg v wr => ∃ i : Nat, i + gg = 1 ∧ v = .int .i64 (i : Int) ∧ (i = 0 → wr = w9) ∧ (i = 1 → ¬ (64 < m ∨ 256 < min (m * n) V) ∧ NRule w w9 wr E hb rb nb SB mi CB FB LB m n V (w5.heap.size + 2) (c6 5) c9))
    case atStart => exact ⟨0, by omega, rfl, fun _ => rfl, fun h => by omega⟩
    case round =>
    obtain ⟨i, hi, rfl, hI0, hI1⟩ := hrel
    by_cases hin : i < 1
    · have hi0 : i = 0 := by omega
      subst hi0
      have ew := (hI0 rfl).symm
      subst ew
      clear hI0 hI1
      obtain ⟨E9, Hh9, Hr9, M9, O9, S9, c09, c19, cf9, f09, f19, f29, ff9, L9, Lf9, b09, ag9, a59, a79, IN⟩ := H9.out
      have bU := one_alloc w9 (.cells #[.string (nmS false), .slice none 0 0, .slice bp m bc] 27)
      have b010 := then_ b09 bU
      have EV : Env (w9.alloc (.cells #[.string (nmS false), .slice none 0 0, .slice bp m bc] 27)) CB E nb rb hb 2 (fnF hb rb 2) (rel0 n) (rel0 0) := Env.below ⟨c09, E9.get ((ag9 6 (by omega) (by omega)).trans rfl) (by omega), M9, Hr9, Hh9⟩ bU
      have hCl9 : CB < w9.heap.size := World.block_lt_of_cell? _ _ c09
      have hru : Calls Try.prog 13 #[.pointer (some ⟨CB, 0, none⟩), .int .i64 0, .agg #[.string (nmS false), .slice none 0 0, .slice bp m bc]] (w9.alloc (.cells #[.string (nmS false), .slice none 0 0, .slice bp m bc] 27)) fun e w' => ((64 < m ∨ 256 < min (m * n) V) → e = .returned (.tuple #[.pointer none, .agg #[.int .u8 3, .int .i64 0, .int .i64 0]])) ∧ (¬ (64 < m ∨ 256 < min (m * n) V) → ∃ RB, e = .returned (.tuple #[.pointer (some ⟨RB, 0, none⟩), .agg #[.int .u8 0, .int .i64 0, .int .i64 0]]) ∧ RuSt (w9.alloc (.cells #[.string (nmS false), .slice none 0 0, .slice bp m bc] 27)).heap.size w' RB hb rb n m (fun j t => (j * n + t) % V) (min (m * n) V) ∧ (w9.alloc (.cells #[.string (nmS false), .slice none 0 0, .slice bp m bc] 27)).heap.size ≤ RB ∧ w'.cell? ⟨CB, 0, none⟩ = some (.pointer (some ⟨E, 0, none⟩))) ∧ Wr CB (w9.alloc (.cells #[.string (nmS false), .slice none 0 0, .slice bp m bc] 27)) w' := by
        by_cases h64 : m ≤ 64
        · have hx := rule_any (n := n) (w := w9.alloc (.cells #[.string (nmS false), .slice none 0 0, .slice bp m bc] 27)) (w0 := w) EV (fun o => (World.frozen?_of_block (a := ⟨CB, o, none⟩) (bU.block CB hCl9)).trans (cf9 o)) ⟨_, cell_later bU c19⟩ rfl rfl rfl rfl IN.bo b010 (by omega) h64 hn0 HF.out hV hmn ⟨by omega, by omega, by omega, by omega⟩
          rw [ebv] at hx
          refine hx.mono ?_
          rintro e w' ⟨h1, h2, h3⟩
          exact ⟨fun h => h1 (by rcases h with h | h; omega; exact h), fun h => h2 (by omega), h3⟩
        · refine (rule_big (p := bp) (m := m) (c := bc) rfl rfl (by omega) ⟨CB, rfl⟩).mono ?_
          rintro e w' ⟨h1, h2⟩
          exact ⟨fun _ => h1, fun h => absurd (.inl (by omega)) h, Wr.of_below h2⟩
      have hs10 : (w9.alloc (.cells #[.string (nmS false), .slice none 0 0, .slice bp m bc] 27)).heap.size = w9.heap.size + 1 := by simp
      have H10 := hideIt (And.intro bU hs10)
      clear E9 Hh9 Hr9 M9 O9 S9 c09 c19 cf9 f09 f19 f29 ff9 L9 Lf9 b09 ag9 a59 a79 IN bU b010 EV hs10
      go_wp2_with fail
      refine hru.mono ?_
      rintro e w11 ⟨hbad, hgood, W11⟩
      obtain ⟨E9, Hh9, Hr9, M9, O9, S9, c09, c19, cf9, f09, f19, f29, ff9, L9, Lf9, b09, ag9, a59, a79, IN⟩ := H9.out
      obtain ⟨bU, hs10⟩ := H10.out
      have hs11 := W11.size
      have k11 : ∀ q, q < w9.heap.size → q ≠ CB → w11.heap[q]? = w9.heap[q]? := fun q h1 h2 => (W11.block q (by omega) h2).trans (bU.block q h1)
      have hFl9 : FB < w9.heap.size := World.block_lt_of_cell? _ _ f09
      have b011 : Below w.heap.size w w11 := ⟨W11.os.trans (bU.os.trans b09.os), W11.tape.trans (bU.tape.trans b09.tape), W11.output.trans (bU.output.trans b09.output), by have := b09.size; omega, fun q hq => (k11 q (by have := b09.size; omega) (by omega)).trans (b09.block q hq)⟩
      have g0 := (World.cell?_of_block (a := ⟨FB, 0, none⟩) (k11 FB hFl9 (by omega))).trans f09
      have g1 := (World.cell?_of_block (a := ⟨FB, 1, none⟩) (k11 FB hFl9 (by omega))).trans f19
      have g2 := (World.cell?_of_block (a := ⟨FB, 2, none⟩) (k11 FB hFl9 (by omega))).trans f29
      have gf : ∀ o, w11.frozen? ⟨FB, o, none⟩ = false := fun o => (World.frozen?_of_block (a := ⟨FB, o, none⟩) (k11 FB hFl9 (by omega))).trans (ff9 o)
      by_cases hbd : 64 < m ∨ 256 < min (m * n) V
      · have he := hbad hbd
        subst he
        have bA := one_alloc w11 (.cells #[.int .u8 3, .int .i64 0, .int .i64 0] 45)
        have v0 := cell_later bA g0
        have v1 := cell_later bA g1
        have v2 := cell_later bA g2
        have vf : ∀ o, (w11.alloc (.cells #[.int .u8 3, .int .i64 0, .int .i64 0] 45)).frozen? ⟨FB, o, none⟩ = false := fun o => (World.frozen?_of_block (a := ⟨FB, o, none⟩) (bA.block FB (by omega))).trans (gf o)
        have HB := hideIt (And.intro (then_ b011 bA) (And.intro hbd (show w.heap.size ≤ FB by omega)))
        have q0 : (w11.alloc (.cells #[.int .u8 3, .int .i64 0, .int .i64 0] 45)).cell? ⟨w11.heap.size, 0, none⟩ = some (.int .u8 3) := new_cell rfl _ _ 0
        have q1 : (w11.alloc (.cells #[.int .u8 3, .int .i64 0, .int .i64 0] 45)).cell? ⟨w11.heap.size, 1, none⟩ = some (.int .i64 0) := new_cell rfl _ _ 1
        have q2 : (w11.alloc (.cells #[.int .u8 3, .int .i64 0, .int .i64 0] 45)).cell? ⟨w11.heap.size, 2, none⟩ = some (.int .i64 0) := new_cell rfl _ _ 2
        clear E9 Hh9 Hr9 M9 O9 S9 c09 c19 cf9 f09 f19 f29 ff9 L9 Lf9 b09 ag9 a59 a79 IN bU hs10 hs11 k11 b011 g0 g1 g2 gf hbad hgood W11 bA hbd hru
        go_upto_region 14 with fail
        generalize hp14 : w11.heap.size = p14 at *
        generalize w11.alloc (.cells #[.int .u8 3, .int .i64 0, .int .i64 0] 45) = w12 at *
        refine wp_region_l (l := 2) (S := (fun w' => w'.cell? ⟨p14, 0, none⟩ = some (.int .u8 3) ∧ w'.cell? ⟨p14, 1, none⟩ = some (.int .i64 0) ∧ w'.cell? ⟨p14, 2, none⟩ = some (.int .i64 0))) (by kernel_rfl) ⟨q0, q1, q2⟩ (fun hHeld => ?_)
        refine AnyL.take2 (i := 0) (oi := { dst := some 72, op := Go.Op.load 45 (Go.Operand.tmp 14), type := 45, pos := _, after := #[{ on := 1, ground := Go.Ground.gcOnly Go.Departure.lateStores }], guard := none }) (v := ?vv43001) (by kernel_rfl) (by kernel_rfl) rfl (by kernel_rfl) (by kernel_rfl) (by kernel_rfl) (fun _ _ _ h => h) (Or.inl ⟨by rfl, ?hy43001⟩) (by assumption) ?tk43001
        case hy43001 => (intro w hSw; (try dsimp only at hSw); go_simp; (try with_reducible rfl))
        try simp only [Act.put, List.setIfInBounds_toArray, List.set_cons_zero, List.set_cons_succ]
        refine AnyL.take2 (i := 1) (oi := { dst := some 6, op := Go.Op.assign (Go.Operand.const (Go.Value.pointer none)), type := 43, pos := _, after := #[{ on := 0, ground := Go.Ground.textOnly Go.Departure.lateStores }], guard := none }) (v := ?vv43002) (by kernel_rfl) (by kernel_rfl) rfl (by kernel_rfl) (by kernel_rfl) (by kernel_rfl) (fun _ _ _ h => h) (Or.inl ⟨by rfl, ?hy43002⟩) (by assumption) ?tk43002
        case hy43002 => (intro w hSw; (try dsimp only at hSw); go_simp; (try with_reducible rfl))
        try simp only [Act.put, List.setIfInBounds_toArray, List.set_cons_zero, List.set_cons_succ]
        refine AnyL.last (o := { dst := none, op := Go.Op.store 45 (Go.Operand.tmp 7) (Go.Operand.tmp 72), type := 0, pos := _, after := #[{ on := 0, ground := Go.Ground.data }, { on := 1, ground := Go.Ground.chain }, { on := 0, ground := Go.Ground.phase }, { on := 1, ground := Go.Ground.phase }], guard := none }) (by kernel_rfl) rfl (by kernel_rfl) (fun K' hK' => ?_)
        go_simp
        clear hHeld
        refine hK'.out _ _ ?_
        clear hK' K'
        try simp only [Act.put, List.setIfInBounds_toArray, List.set_cons_zero, List.set_cons_succ]
        go_wp2
        refine bodyPost_ret (v := .tuple #[.pointer none, .agg #[.int .u8 3, .int .i64 0, .int .i64 0]]) ?_ rfl ?_
        · rw [results_tmp_cell rfl]
          go_simp
        · obtain ⟨b06, hbd, hFw⟩ := HB.out
          have hn32 := HF.out
          exact ⟨fun h => by omega, fun _ _ => ⟨0, 0, rfl⟩, fun _ h => absurd hbd h, fun _ h => absurd hbd h, below_dr (below_cell (below_cell (below_cell b06 hFw _) hFw _) hFw _)⟩
      · obtain ⟨RB, he, HU, hRB, c011⟩ := hgood hbd
        subst he
        have bA := one_alloc w11 (.cells #[.int .u8 0, .int .i64 0, .int .i64 0] 45)
        have hs12 : (w11.alloc (.cells #[.int .u8 0, .int .i64 0, .int .i64 0] 45)).heap.size = w11.heap.size + 1 := by simp
        have k12 : ∀ q, q < w9.heap.size → q ≠ CB → (w11.alloc (.cells #[.int .u8 0, .int .i64 0, .int .i64 0] 45)).heap[q]? = w9.heap[q]? := fun q h1 h2 => (bA.block q (by omega)).trans (k11 q h1 h2)
        have q0 : (w11.alloc (.cells #[.int .u8 0, .int .i64 0, .int .i64 0] 45)).cell? ⟨w11.heap.size, 0, none⟩ = some (.int .u8 0) := new_cell rfl _ _ 0
        have hEl9 := E9.lt
        have E12 := E9.blk (k12 E hEl9 (by omega))
        have e13 := E12.get ((ag9 13 (by omega) (by omega)).trans rfl) (by omega)
        have ef12 := E12.fz
        have HU12 := HU.keep (w' := w11.alloc (.cells #[.int .u8 0, .int .i64 0, .int .i64 0] 45)) bA.size (fun q h1 h2 => bA.block q h2)
        have c012 := cell_later bA c011
        have hCl11 : CB < w11.heap.size := World.block_lt_of_cell? _ _ c011
        have W11' : Wr CB w9 (w11.alloc (.cells #[.int .u8 0, .int .i64 0, .int .i64 0] 45)) := ((Wr.of_below bU).trans W11).below bA
        have hRBl : RB < w11.heap.size := by
          obtain ⟨⟨_, _, _, _, ⟨a0, _⟩, _⟩, _⟩ := HU.at
          exact World.block_lt_of_cell? _ _ a0
        have H12 := hideIt (And.intro E12 (And.intro HU12 (And.intro c012 (And.intro W11' (And.intro k12 (And.intro (then_ b011 bA) (And.intro hs12 hs10)))))))
        have hbd' := hideIt hbd
        have hs12' : w11.heap.size < (w11.alloc (.cells #[.int .u8 0, .int .i64 0, .int .i64 0] 45)).heap.size := by omega
        have hRBs : w9.heap.size < RB := by omega
        have hEs : E < (w11.alloc (.cells #[.int .u8 0, .int .i64 0, .int .i64 0] 45)).heap.size := E12.lt
        clear E9 Hh9 Hr9 M9 O9 S9 c09 c19 cf9 f09 f19 f29 ff9 L9 Lf9 b09 ag9 a59 a79 IN bU hs10 k11 b011 g0 g1 g2 gf hbad hgood W11 bA hbd hru E12 HU12 HU c012 W11' k12 hs12 c011
        go_upto_region 13 with fail
        generalize w11.alloc (.cells #[.int .u8 0, .int .i64 0, .int .i64 0] 45) = w12 at *
        go_wp2_with (first | (at_builtin; refine wpList_append_own_at _ rfl (.tmp 77) (.tmp 79) 68 rfl w12.heap.size 81 i81 (.pointer none) 1 8 Try.underlying68 hi81 hw0 hw1 hw2 rfl (by decide) (.slice none 0 0) 0 [] rfl (own_nil _ _ _ _) ⟨w12.heap.size, 0, none⟩ 1 1 [.pointer (some ⟨RB, 0, none⟩)] rfl rfl (cell_new1 _ _ _) (by simp [Value.oneCell']) (by unfold maxLen; omega) (by omega) (by simp <;> omega) ?_) | go_in)
        intro v13 w13 own13 hgrow hiff hblk
        have b13 := below_app (w1 := w13) hgrow
        obtain ⟨p13, cc13, rfl⟩ := own_shape own13
        obtain ⟨E12, HU12, c012, W12, k12, b012, hs12, hs10⟩ := H12.out
        have E13 := E12.below b13
        have e13' := cell_later b13 e13
        have ef13 := E13.fz
        have HB13 := hideIt b13
        clear own13 hgrow hiff hblk b13 E12 HU12 c012 W12 k12 b012 hs12 hs10 E13 e13 ef12 q0
        go_upto_region 16 with fail
        obtain ⟨E12, HU12, c012, W12, k12, b012, hs12, hs10⟩ := H12.out
        obtain ⟨E9, Hh9, Hr9, M9, O9, S9, c09, c19, cf9, f09, f19, f29, ff9, L9, Lf9, b09, ag9, a59, a79, IN⟩ := H9.out
        have b13 := HB13.out
        have k14 : ∀ q, q < w12.heap.size → q ≠ E → (w13.setCell ⟨E, 13, none⟩ (.slice p13 (0 + 1) cc13)).heap[q]? = w12.heap[q]? := fun q h1 h2 => (far_set h2).trans (b13.block q h1)
        have hEl9 := E9.lt
        have E14 := (E12.below b13).put (k := 13) (by omega) (.slice p13 (0 + 1) cc13)
        have hs14 : w12.heap.size ≤ (w13.setCell ⟨E, 13, none⟩ (.slice p13 (0 + 1) cc13)).heap.size := by have := b13.size; simp; omega
        have HU14 : RuSt (w9.heap.size + 1) (w13.setCell ⟨E, 13, none⟩ (.slice p13 (0 + 1) cc13)) RB hb rb n m (fun j t => (j * n + t) % V) (min (m * n) V) := by
          rw [← hs10]
          exact HU12.keep hs14 (fun q h1 h2 => k14 q h2 (by omega))
        have b014 : Below w.heap.size w (w13.setCell ⟨E, 13, none⟩ (.slice p13 (0 + 1) cc13)) := below_cell (b012.trans (b13.mono (by have := b012.size; omega))) (by omega) _
        have kz : ∀ q, q < w9.heap.size → q ≠ CB → q ≠ E → (w13.setCell ⟨E, 13, none⟩ (.slice p13 (0 + 1) cc13)).heap[q]? = w9.heap[q]? := fun q h1 h2 h3 => (k14 q (by omega) h3).trans (k12 q h1 h2)
        have c014 : (w13.setCell ⟨E, 13, none⟩ (.slice p13 (0 + 1) cc13)).cell? ⟨CB, 0, none⟩ = some (.pointer (some ⟨E, 0, none⟩)) := (World.cell?_of_block (a := ⟨CB, 0, none⟩) (k14 CB (World.block_lt_of_cell? _ _ c012) (by omega))).trans c012
        have ag14 : ∀ k, k ≠ 13 → updV c9 13 (.slice p13 (0 + 1) cc13) k = c9 k := fun k h => updV_other _ _ h
        clear E12 HU12 c012 W12 k12 b012 hs12 k14 HB13 b13 e13' ef13 H12
        generalize updV c9 13 (.slice p13 (0 + 1) cc13) = c14 at *
        generalize (w13.setCell ⟨E, 13, none⟩ (.slice p13 (0 + 1) cc13)) = w14 at *
        have hR0 : 0 < min (m * n) V := by have : 0 < m * n := Nat.mul_pos hm0 hn0; omega
        obtain ⟨ρ, X14, ρ1, ρ2, ρ3, ρ4, ρ5, ρ6, ρ7, ρ8⟩ := HU14.told hn0 hm0
        have hfd := ruleFold_any (ev := .pointer (some ⟨E, 0, none⟩)) HU14.at hn hm (by omega) hR0 ⟨E, rfl⟩
        have H14 := hideIt (And.intro E14 (And.intro X14 (And.intro b014 (And.intro kz (And.intro c014 ag14)))))
        have HR := hideIt (And.intro ρ1 (And.intro ρ2 (And.intro ρ3 (And.intro ρ4 (And.intro ρ5 (And.intro ρ6 (And.intro ρ7 ρ8)))))))
        clear E14 HU14 X14 b014 kz c014 ag14 ρ1 ρ2 ρ3 ρ4 ρ5 ρ6 ρ7 ρ8 E9 Hh9 Hr9 M9 O9 S9 c09 c19 cf9 f09 f19 f29 ff9 L9 Lf9 b09 ag9 a59 a79 IN hs10 hR0
        go_wp2_with fail
        refine hfd.mono ?_
        rintro e wd ⟨rfl, b15⟩
        obtain ⟨E14, X14, b014, kz, c014, ag14⟩ := H14.out
        obtain ⟨ρ1, ρ2, ρ3, ρ4, ρ5, ρ6, ρ7, ρ8⟩ := HR.out
        obtain ⟨E9, Hh9, Hr9, M9, O9, S9, c09, c19, cf9, f09, f19, f29, ff9, L9, Lf9, b09, ag9, a59, a79, IN⟩ := H9.out
        have hs15 := b15.size
        have E15 := E14.below b15
        have X15 := X14.below b15
        have kz5 : ∀ q, q < w9.heap.size → q ≠ CB → q ≠ E → wd.heap[q]? = w9.heap[q]? := fun q h1 h2 h3 => (b15.block q (by omega)).trans (kz q h1 h2 h3)
        have r1 := X15.c1
        rw [ρ1, ρ2] at r1
        have Hh15 := Hh9.blk (kz5 hb Hh9.lt (by omega) (by omega))
        have h2 := Hh15.sr
        have yE7 := E15.get ((ag14 7 (by omega)).trans a79) (by omega)
        have yL := (World.cell?_of_block (a := ⟨LB, 0, none⟩) (kz5 LB (by omega) (by omega) (by omega))).trans L9
        have hLd : LB < wd.heap.size := World.block_lt_of_cell? _ _ yL
        have lfd : ∀ o, wd.frozen? ⟨LB, o, none⟩ = false := fun o => (World.frozen?_of_block (a := ⟨LB, o, none⟩) (kz5 LB (by omega) (by omega) (by omega))).trans (Lf9 o)
        have H15 := hideIt (And.intro E15 (And.intro X15 (And.intro kz5 (And.intro (then_ b014 b15) (And.intro (cell_later b15 c014) ag14)))))
        clear E14 X14 b014 kz c014 ag14 ρ1 ρ2 ρ3 ρ4 ρ5 ρ6 ρ7 ρ8 E9 Hh9 Hr9 M9 O9 S9 c09 c19 cf9 f09 f19 f29 ff9 L9 Lf9 b09 ag9 a59 a79 IN E15 X15 kz5 Hh15 H14 b15 hfd
        go_upto_region 18 with fail
        refine wp_region_l (l := 16) (S := (fun w' => w'.cell? ⟨E, 7, none⟩ = some (.slice (some ⟨LB, 0, none⟩) 1 1) ∧ w'.cell? ⟨LB, 0, none⟩ = some (.slice none 0 0))) (by kernel_rfl) ⟨yE7, yL⟩ (fun hHeld => ?_)
        refine AnyL.take2 (i := 0) (oi := { dst := some 95, op := Go.Op.move (Go.Operand.tmp 8), type := 43, pos := _, after := #[], guard := none }) (v := ?vv43003) (by kernel_rfl) (by kernel_rfl) rfl (by kernel_rfl) (by kernel_rfl) (by kernel_rfl) (fun _ _ _ h => h) (Or.inl ⟨by rfl, ?hy43003⟩) (by assumption) ?tk43003
        case hy43003 => (intro w hSw; (try dsimp only at hSw); go_simp; (try with_reducible rfl))
        try simp only [Act.put, List.setIfInBounds_toArray, List.set_cons_zero, List.set_cons_succ]
        refine AnyL.take2 (i := 1) (oi := { dst := some 96, op := Go.Op.nilCheck (Go.Operand.tmp 95), type := 0, pos := _, after := #[{ on := 0, ground := Go.Ground.data }], guard := none }) (v := ?vv43004) (by kernel_rfl) (by kernel_rfl) rfl (by kernel_rfl) (by kernel_rfl) (by kernel_rfl) (fun _ _ _ h => h) (Or.inl ⟨by rfl, ?hy43004⟩) (by assumption) ?tk43004
        case hy43004 => (intro w hSw; (try dsimp only at hSw); go_simp; (try with_reducible rfl))
        try simp only [Act.put, List.setIfInBounds_toArray, List.set_cons_zero, List.set_cons_succ]
        refine AnyL.take2 (i := 2) (oi := { dst := some 97, op := Go.Op.fieldAddr 75 (Go.Operand.tmp 96) 4, type := 0, pos := _, after := #[{ on := 1, ground := Go.Ground.data }], guard := none }) (v := ?vv43005) (by kernel_rfl) (by kernel_rfl) rfl (by kernel_rfl) (by kernel_rfl) (by kernel_rfl) (fun _ _ _ h => h) (Or.inl ⟨by rfl, ?hy43005⟩) (by assumption) ?tk43005
        case hy43005 => (intro w hSw; (try dsimp only at hSw); go_simp; (try with_reducible rfl))
        try simp only [Act.put, List.setIfInBounds_toArray, List.set_cons_zero, List.set_cons_succ]
        refine AnyL.take2 (i := 3) (oi := { dst := some 98, op := Go.Op.load 66 (Go.Operand.tmp 97), type := 66, pos := _, after := #[{ on := 2, ground := Go.Ground.data }], guard := none }) (v := ?vv43006) (by kernel_rfl) (by kernel_rfl) rfl (by kernel_rfl) (by kernel_rfl) (by kernel_rfl) (fun _ _ _ h => h) (Or.inl ⟨by rfl, ?hy43006⟩) (by assumption) ?tk43006
        case hy43006 => (intro w hSw; (try dsimp only at hSw); go_simp; (try with_reducible rfl))
        try simp only [Act.put, List.setIfInBounds_toArray, List.set_cons_zero, List.set_cons_succ]
        refine AnyL.take2 (i := 4) (oi := { dst := some 99, op := Go.Op.move (Go.Operand.tmp 15), type := 3, pos := _, after := #[], guard := none }) (v := ?vv43007) (by kernel_rfl) (by kernel_rfl) rfl (by kernel_rfl) (by kernel_rfl) (by kernel_rfl) (fun _ _ _ h => h) (Or.inl ⟨by rfl, ?hy43007⟩) (by assumption) ?tk43007
        case hy43007 => (intro w hSw; (try dsimp only at hSw); go_simp; (try with_reducible rfl))
        try simp only [Act.put, List.setIfInBounds_toArray, List.set_cons_zero, List.set_cons_succ]
        refine AnyL.take2 (i := 5) (oi := { dst := some 100, op := Go.Op.move (Go.Operand.tmp 8), type := 43, pos := _, after := #[], guard := none }) (v := ?vv43008) (by kernel_rfl) (by kernel_rfl) rfl (by kernel_rfl) (by kernel_rfl) (by kernel_rfl) (fun _ _ _ h => h) (Or.inl ⟨by rfl, ?hy43008⟩) (by assumption) ?tk43008
        case hy43008 => (intro w hSw; (try dsimp only at hSw); go_simp; (try with_reducible rfl))
        try simp only [Act.put, List.setIfInBounds_toArray, List.set_cons_zero, List.set_cons_succ]
        refine AnyL.take2 (i := 6) (oi := { dst := some 101, op := Go.Op.nilCheck (Go.Operand.tmp 100), type := 0, pos := _, after := #[{ on := 5, ground := Go.Ground.data }], guard := none }) (v := ?vv43009) (by kernel_rfl) (by kernel_rfl) rfl (by kernel_rfl) (by kernel_rfl) (by kernel_rfl) (fun _ _ _ h => h) (Or.inl ⟨by rfl, ?hy43009⟩) (by assumption) ?tk43009
        case hy43009 => (intro w hSw; (try dsimp only at hSw); go_simp; (try with_reducible rfl))
        try simp only [Act.put, List.setIfInBounds_toArray, List.set_cons_zero, List.set_cons_succ]
        refine AnyL.take2 (i := 7) (oi := { dst := some 102, op := Go.Op.fieldAddr 75 (Go.Operand.tmp 101) 4, type := 0, pos := _, after := #[{ on := 6, ground := Go.Ground.data }], guard := none }) (v := ?vv43010) (by kernel_rfl) (by kernel_rfl) rfl (by kernel_rfl) (by kernel_rfl) (by kernel_rfl) (fun _ _ _ h => h) (Or.inl ⟨by rfl, ?hy43010⟩) (by assumption) ?tk43010
        case hy43010 => (intro w hSw; (try dsimp only at hSw); go_simp; (try with_reducible rfl))
        try simp only [Act.put, List.setIfInBounds_toArray, List.set_cons_zero, List.set_cons_succ]
        refine AnyL.take2 (i := 8) (oi := { dst := some 103, op := Go.Op.load 66 (Go.Operand.tmp 102), type := 66, pos := _, after := #[{ on := 7, ground := Go.Ground.data }], guard := none }) (v := ?vv43011) (by kernel_rfl) (by kernel_rfl) rfl (by kernel_rfl) (by kernel_rfl) (by kernel_rfl) (fun _ _ _ h => h) (Or.inl ⟨by rfl, ?hy43011⟩) (by assumption) ?tk43011
        case hy43011 => (intro w hSw; (try dsimp only at hSw); go_simp; (try with_reducible rfl))
        try simp only [Act.put, List.setIfInBounds_toArray, List.set_cons_zero, List.set_cons_succ]
        refine AnyL.take2 (i := 9) (oi := { dst := some 104, op := Go.Op.move (Go.Operand.tmp 15), type := 3, pos := _, after := #[], guard := none }) (v := ?vv43012) (by kernel_rfl) (by kernel_rfl) rfl (by kernel_rfl) (by kernel_rfl) (by kernel_rfl) (fun _ _ _ h => h) (Or.inl ⟨by rfl, ?hy43012⟩) (by assumption) ?tk43012
        case hy43012 => (intro w hSw; (try dsimp only at hSw); go_simp; (try with_reducible rfl))
        try simp only [Act.put, List.setIfInBounds_toArray, List.set_cons_zero, List.set_cons_succ]
        refine AnyL.take2 (i := 10) (oi := { dst := some 105, op := Go.Op.indexAddr 66 (Go.Operand.tmp 103) (Go.Operand.tmp 104), type := 0, pos := _, after := #[{ on := 8, ground := Go.Ground.data }, { on := 9, ground := Go.Ground.data }], guard := none }) (v := ?vv43013) (by kernel_rfl) (by kernel_rfl) rfl (by kernel_rfl) (by kernel_rfl) (by kernel_rfl) (fun _ _ _ h => h) (Or.inl ⟨by rfl, ?hy43013⟩) (by assumption) ?tk43013
        case hy43013 => (intro w hSw; (try dsimp only at hSw); go_simp; (try with_reducible rfl))
        try simp only [Act.put, List.setIfInBounds_toArray, List.set_cons_zero, List.set_cons_succ]
        refine AnyL.take2 (i := 11) (oi := { dst := some 106, op := Go.Op.load 68 (Go.Operand.tmp 105), type := 68, pos := _, after := #[{ on := 10, ground := Go.Ground.data }], guard := none }) (v := ?vv43014) (by kernel_rfl) (by kernel_rfl) rfl (by kernel_rfl) (by kernel_rfl) (by kernel_rfl) (fun _ _ _ h => h) (Or.inl ⟨by rfl, ?hy43014⟩) (by assumption) ?tk43014
        case hy43014 => (intro w hSw; (try dsimp only at hSw); go_simp; (try with_reducible rfl))
        try simp only [Act.put, List.setIfInBounds_toArray, List.set_cons_zero, List.set_cons_succ]
        refine AnyL.take2 (i := 12) (oi := { dst := some 107, op := Go.Op.move (Go.Operand.tmp 13), type := 81, pos := _, after := #[], guard := none }) (v := ?vv43015) (by kernel_rfl) (by kernel_rfl) rfl (by kernel_rfl) (by kernel_rfl) (by kernel_rfl) (fun _ _ _ h => h) (Or.inl ⟨by rfl, ?hy43015⟩) (by assumption) ?tk43015
        case hy43015 => (intro w hSw; (try dsimp only at hSw); go_simp; (try with_reducible rfl))
        try simp only [Act.put, List.setIfInBounds_toArray, List.set_cons_zero, List.set_cons_succ]
        refine AnyL.one (i := 13) (o := { dst := some 108, op := Go.Op.buildSlice 68 1 #[(0, Go.Operand.tmp 107)], type := 68, pos := _, after := #[{ on := 12, ground := Go.Ground.data }], guard := none }) (by kernel_rfl) rfl rfl (fun K' hK' => ?_)
        go_simp
        clear hHeld
        refine hK'.out _ _ ⟨cell_later (below_dr (one_alloc _ _)) yE7, cell_later (below_dr (one_alloc _ _)) yL⟩ (fun hHeld => ?_)
        clear hK' K'
        try simp only [Act.put, List.setIfInBounds_toArray, List.set_cons_zero, List.set_cons_succ]
        refine AnyL.one (i := 14) (o := { dst := some 109, op := Go.Op.call { callee := Go.Callee.builtin Go.Builtin.append, args := #[Go.Operand.tmp 106, Go.Operand.tmp 108], argTypes := #[68, 68] }, type := 68, pos := _, after := #[{ on := 11, ground := Go.Ground.data }, { on := 13, ground := Go.Ground.data }], guard := none }) (by kernel_rfl) rfl rfl (fun K' hK' => ?_)
        refine ite_take (by rfl) ?_
        refine wp_append_own_at (.tmp 106) (.tmp 108) 68 rfl wd.heap.size 81 i81 ((.pointer none)) 1 8 Try.underlying68 hi81 hw0 hw1 hw2 rfl (by decide) (.slice none 0 0) 0 [] rfl (own_nil _ _ _ _) ⟨wd.heap.size, 0, none⟩ 1 1 [.pointer (some ⟨RB, 0, none⟩)] rfl rfl (cell_new1 _ _ _) (by simp [Value.oneCell']) (by unfold maxLen; omega) (by omega) (by simp <;> omega) ?_
        intro v' w3 hown' hgrow hblk
        obtain ⟨p', c', rfl⟩ := own_shape hown'
        have kk0 := hgrow.cell (a := ⟨E, 7, none⟩) (hHeld.1) (by simp [Value.ownBlock])
        have kk1 := hgrow.cell (a := ⟨LB, 0, none⟩) (hHeld.2) (by simp [Value.ownBlock])
        have fz3 : ∀ o, w3.frozen? ⟨LB, o, none⟩ = false := fun o => ((World.frozen?_of_block (a := ⟨LB, o, none⟩) (hgrow.block LB (by simp; omega) (by simp [Value.ownBlock]))).trans (World.frozen?_of_block (a := ⟨LB, o, none⟩) ((one_alloc wd _).block LB hLd))).trans (lfd o)
        have HG := hideIt (And.intro hown' (And.intro hgrow hblk))
        clear hown' hgrow hblk
        clear hHeld
        refine hK'.out _ _ ⟨kk0, kk1⟩ (fun hHeld => ?_)
        clear hK' K'
        try simp only [Act.put, List.setIfInBounds_toArray, List.set_cons_zero, List.set_cons_succ]
        refine AnyL.take2 (i := 15) (oi := { dst := some 110, op := Go.Op.indexAddr 66 (Go.Operand.tmp 98) (Go.Operand.tmp 99), type := 0, pos := _, after := #[{ on := 3, ground := Go.Ground.data }, { on := 4, ground := Go.Ground.data }, { on := 0, ground := Go.Ground.phase }, { on := 1, ground := Go.Ground.phase }, { on := 2, ground := Go.Ground.phase }, { on := 3, ground := Go.Ground.phase }, { on := 4, ground := Go.Ground.phase }, { on := 5, ground := Go.Ground.phase }, { on := 6, ground := Go.Ground.phase }, { on := 7, ground := Go.Ground.phase }, { on := 8, ground := Go.Ground.phase }, { on := 9, ground := Go.Ground.phase }, { on := 10, ground := Go.Ground.phase }, { on := 11, ground := Go.Ground.phase }, { on := 12, ground := Go.Ground.phase }, { on := 13, ground := Go.Ground.phase }, { on := 14, ground := Go.Ground.phase }], guard := none }) (v := ?vv43016) (by kernel_rfl) (by kernel_rfl) rfl (by kernel_rfl) (by kernel_rfl) (by kernel_rfl) (fun _ _ _ h => h) (Or.inl ⟨by rfl, ?hy43016⟩) (by assumption) ?tk43016
        case hy43016 => (intro w hSw; (try dsimp only at hSw); go_simp; (try with_reducible rfl))
        try simp only [Act.put, List.setIfInBounds_toArray, List.set_cons_zero, List.set_cons_succ]
        refine AnyL.last (o := { dst := none, op := Go.Op.store 68 (Go.Operand.tmp 110) (Go.Operand.tmp 109), type := 0, pos := _, after := #[{ on := 15, ground := Go.Ground.data }, { on := 14, ground := Go.Ground.data }, { on := 14, ground := Go.Ground.chain }, { on := 0, ground := Go.Ground.phase }, { on := 1, ground := Go.Ground.phase }, { on := 2, ground := Go.Ground.phase }, { on := 3, ground := Go.Ground.phase }, { on := 4, ground := Go.Ground.phase }, { on := 5, ground := Go.Ground.phase }, { on := 6, ground := Go.Ground.phase }, { on := 7, ground := Go.Ground.phase }, { on := 8, ground := Go.Ground.phase }, { on := 9, ground := Go.Ground.phase }, { on := 10, ground := Go.Ground.phase }, { on := 11, ground := Go.Ground.phase }, { on := 12, ground := Go.Ground.phase }, { on := 13, ground := Go.Ground.phase }, { on := 14, ground := Go.Ground.phase }], guard := none }) (by kernel_rfl) rfl (by kernel_rfl) (fun K' hK' => ?_)
        go_simp
        clear hHeld
        refine hK'.out _ _ ?_
        clear hK' K'
        try simp only [Act.put, List.setIfInBounds_toArray, List.set_cons_zero, List.set_cons_succ]
        obtain ⟨hown', hgrow, hblk⟩ := HG.out
        have bN := below_dr (one_alloc wd (.cells #[.pointer (some ⟨RB, 0, none⟩)] 81))
        have b3 : Below wd.heap.size wd w3 := ⟨hgrow.os.trans bN.os, hgrow.tape.trans bN.tape, hgrow.output.trans bN.output, Nat.le_trans bN.size hgrow.size, fun q hq => (hgrow.block q (by have := bN.size; omega) (by simp [Value.ownBlock])).trans (bN.block q hq)⟩
        have own16 : (w3.setCell ⟨LB, 0, none⟩ (.slice p' (0 + 1) c')).ownsRow wd.heap.size 81 1 (.slice p' (0 + 1) c') (0 + 1) [.pointer (some ⟨RB, 0, none⟩)] := own_one hown' (fun q hq => far_set (fun e => by have := (hown'.lt q hq).1; omega))
        obtain ⟨gl, cgl, ep, hcp, hgl, hgll, hglc, _⟩ := own_full own16 (by omega)
        have gl16 : (w3.setCell ⟨LB, 0, none⟩ (.slice p' (0 + 1) c')).cell? ⟨gl, 0, none⟩ = some (.pointer (some ⟨RB, 0, none⟩)) := hglc 0 (by omega)
        obtain ⟨E15, X15, kz5, b015, c015, ag14⟩ := H15.out
        obtain ⟨ρ1, ρ2, ρ3, ρ4, ρ5, ρ6, ρ7, ρ8⟩ := HR.out
        have k16 : ∀ q, q < wd.heap.size → q ≠ LB → (w3.setCell ⟨LB, 0, none⟩ (.slice p' (0 + 1) c')).heap[q]? = wd.heap[q]? := fun q h1 h2 => (far_set h2).trans (b3.block q h1)
        have E16 := E15.blk (k16 E E15.lt (by omega))
        have X16 : RuX (w3.setCell ⟨LB, 0, none⟩ (.slice p' (0 + 1) c')) ρ := X15.keep (fun q hq => k16 q (X15.lt hq) (by have := ρ8 q hq; omega))
        have b016 : Below w.heap.size w (w3.setCell ⟨LB, 0, none⟩ (.slice p' (0 + 1) c')) := below_cell (b015.trans (b3.mono (by have := b015.size; omega))) (by omega) _
        have LB16 : (w3.setCell ⟨LB, 0, none⟩ (.slice p' (0 + 1) c')).cell? ⟨LB, 0, none⟩ = some (.slice (some ⟨gl, 0, none⟩) 1 cgl) := by rw [← ep]; exact World.cell?_setCell_same _ _ _ kk1
        have c016 := (World.cell?_of_block (a := ⟨CB, 0, none⟩) (k16 CB (World.block_lt_of_cell? _ _ c015) (by omega))).trans c015
        have kz6 : ∀ q, q < w9.heap.size → q ≠ CB → q ≠ E → q ≠ LB → (w3.setCell ⟨LB, 0, none⟩ (.slice p' (0 + 1) c')).heap[q]? = w9.heap[q]? := fun q h1 h2 h3 h4 => (k16 q (by omega) h4).trans (kz5 q h1 h2 h3)
        have hwd16 : wd.heap.size ≤ (w3.setCell ⟨LB, 0, none⟩ (.slice p' (0 + 1) c')).heap.size := by have := b3.size; simp; omega
        clear hown' hgrow hblk bN b3 own16 hcp hglc E15 X15 kz5 b015 c015 k16 HG H15 kk0 kk1 fz3 yE7 yL lfd ep
        generalize (w3.setCell ⟨LB, 0, none⟩ (.slice p' (0 + 1) c')) = w16 at *
        obtain ⟨E9, Hh9, Hr9, M9, O9, S9, c09, c19, cf9, f09, f19, f29, ff9, L9, Lf9, b09, ag9, a59, a79, IN⟩ := H9.out
        have yE := E16.get (k := 21) ((ag14 21 (by omega)).trans ((ag9 21 (by omega) (by omega)).trans rfl)) (by omega)
        have yR := X16.c7
        rw [ρ1, ρ6] at yR
        have ef16 := E16.fz
        have hE16 : E < w16.drew.heap.size := E16.lt
        have hR16 : RB < w16.drew.heap.size := World.block_lt_of_cell? _ _ yR
        have hR0 : 0 < min (m * n) V := by have : 0 < m * n := Nat.mul_pos hm0 hn0; omega
        have hgr := grown15 (w := w16.drew) (n := min (m * n) V) (by omega) hR0
        have H16 := hideIt (And.intro E16 (And.intro X16 (And.intro b016 (And.intro LB16 (And.intro c016 (And.intro kz6 (And.intro gl16 ag14)))))))
        clear E16 X16 b016 LB16 c016 kz6 gl16 ag14 ρ1 ρ2 ρ3 ρ4 ρ5 ρ6 ρ7 ρ8 E9 Hh9 Hr9 M9 O9 S9 c09 c19 cf9 f09 f19 f29 ff9 L9 Lf9 b09 ag9 a59 a79 IN
        go_upto_region 19 with fail
        refine wp_region_l (l := 12) (S := (fun w' => w'.cell? ⟨E, 21, none⟩ = some (.slice none 0 0) ∧ w'.cell? ⟨RB, 7, none⟩ = some (.int .i64 ((min (m * n) V : Nat) : Int)))) (by kernel_rfl) ⟨yE, yR⟩ (fun hHeld => ?_)
        refine AnyL.take2 (i := 0) (oi := { dst := some 111, op := Go.Op.move (Go.Operand.tmp 8), type := 43, pos := _, after := #[], guard := none }) (v := ?vv43017) (by kernel_rfl) (by kernel_rfl) rfl (by kernel_rfl) (by kernel_rfl) (by kernel_rfl) (fun _ _ _ h => h) (Or.inl ⟨by rfl, ?hy43017⟩) (by assumption) ?tk43017
        case hy43017 => (intro w hSw; (try dsimp only at hSw); go_simp; (try with_reducible rfl))
        try simp only [Act.put, List.setIfInBounds_toArray, List.set_cons_zero, List.set_cons_succ]
        refine AnyL.take2 (i := 1) (oi := { dst := some 112, op := Go.Op.move (Go.Operand.tmp 8), type := 43, pos := _, after := #[], guard := none }) (v := ?vv43018) (by kernel_rfl) (by kernel_rfl) rfl (by kernel_rfl) (by kernel_rfl) (by kernel_rfl) (fun _ _ _ h => h) (Or.inl ⟨by rfl, ?hy43018⟩) (by assumption) ?tk43018
        case hy43018 => (intro w hSw; (try dsimp only at hSw); go_simp; (try with_reducible rfl))
        try simp only [Act.put, List.setIfInBounds_toArray, List.set_cons_zero, List.set_cons_succ]
        refine AnyL.take2 (i := 2) (oi := { dst := some 113, op := Go.Op.nilCheck (Go.Operand.tmp 112), type := 0, pos := _, after := #[{ on := 1, ground := Go.Ground.data }], guard := none }) (v := ?vv43019) (by kernel_rfl) (by kernel_rfl) rfl (by kernel_rfl) (by kernel_rfl) (by kernel_rfl) (fun _ _ _ h => h) (Or.inl ⟨by rfl, ?hy43019⟩) (by assumption) ?tk43019
        case hy43019 => (intro w hSw; (try dsimp only at hSw); go_simp; (try with_reducible rfl))
        try simp only [Act.put, List.setIfInBounds_toArray, List.set_cons_zero, List.set_cons_succ]
        refine AnyL.take2 (i := 3) (oi := { dst := some 114, op := Go.Op.fieldAddr 75 (Go.Operand.tmp 113) 11, type := 0, pos := _, after := #[{ on := 2, ground := Go.Ground.data }], guard := none }) (v := ?vv43020) (by kernel_rfl) (by kernel_rfl) rfl (by kernel_rfl) (by kernel_rfl) (by kernel_rfl) (fun _ _ _ h => h) (Or.inl ⟨by rfl, ?hy43020⟩) (by assumption) ?tk43020
        case hy43020 => (intro w hSw; (try dsimp only at hSw); go_simp; (try with_reducible rfl))
        try simp only [Act.put, List.setIfInBounds_toArray, List.set_cons_zero, List.set_cons_succ]
        refine AnyL.take2 (i := 4) (oi := { dst := some 115, op := Go.Op.load 72 (Go.Operand.tmp 114), type := 72, pos := _, after := #[{ on := 3, ground := Go.Ground.data }], guard := none }) (v := ?vv43021) (by kernel_rfl) (by kernel_rfl) rfl (by kernel_rfl) (by kernel_rfl) (by kernel_rfl) (fun _ _ _ h => h) (Or.inl ⟨by rfl, ?hy43021⟩) (by assumption) ?tk43021
        case hy43021 => (intro w hSw; (try dsimp only at hSw); go_simp; (try with_reducible rfl))
        try simp only [Act.put, List.setIfInBounds_toArray, List.set_cons_zero, List.set_cons_succ]
        refine AnyL.take2 (i := 5) (oi := { dst := some 116, op := Go.Op.move (Go.Operand.tmp 13), type := 81, pos := _, after := #[], guard := none }) (v := ?vv43022) (by kernel_rfl) (by kernel_rfl) rfl (by kernel_rfl) (by kernel_rfl) (by kernel_rfl) (fun _ _ _ h => h) (Or.inl ⟨by rfl, ?hy43022⟩) (by assumption) ?tk43022
        case hy43022 => (intro w hSw; (try dsimp only at hSw); go_simp; (try with_reducible rfl))
        try simp only [Act.put, List.setIfInBounds_toArray, List.set_cons_zero, List.set_cons_succ]
        refine AnyL.take2 (i := 6) (oi := { dst := some 117, op := Go.Op.nilCheck (Go.Operand.tmp 116), type := 0, pos := _, after := #[{ on := 5, ground := Go.Ground.data }], guard := none }) (v := ?vv43023) (by kernel_rfl) (by kernel_rfl) rfl (by kernel_rfl) (by kernel_rfl) (by kernel_rfl) (fun _ _ _ h => h) (Or.inl ⟨by rfl, ?hy43023⟩) (by assumption) ?tk43023
        case hy43023 => (intro w hSw; (try dsimp only at hSw); go_simp; (try with_reducible rfl))
        try simp only [Act.put, List.setIfInBounds_toArray, List.set_cons_zero, List.set_cons_succ]
        refine AnyL.take2 (i := 7) (oi := { dst := some 118, op := Go.Op.fieldAddr 96 (Go.Operand.tmp 117) 5, type := 0, pos := _, after := #[{ on := 6, ground := Go.Ground.data }], guard := none }) (v := ?vv43024) (by kernel_rfl) (by kernel_rfl) rfl (by kernel_rfl) (by kernel_rfl) (by kernel_rfl) (fun _ _ _ h => h) (Or.inl ⟨by rfl, ?hy43024⟩) (by assumption) ?tk43024
        case hy43024 => (intro w hSw; (try dsimp only at hSw); go_simp; (try with_reducible rfl))
        try simp only [Act.put, List.setIfInBounds_toArray, List.set_cons_zero, List.set_cons_succ]
        refine AnyL.take2 (i := 8) (oi := { dst := some 119, op := Go.Op.load 3 (Go.Operand.tmp 118), type := 3, pos := _, after := #[{ on := 7, ground := Go.Ground.data }], guard := none }) (v := ?vv43025) (by kernel_rfl) (by kernel_rfl) rfl (by kernel_rfl) (by kernel_rfl) (by kernel_rfl) (fun _ _ _ h => h) (Or.inl ⟨by rfl, ?hy43025⟩) (by assumption) ?tk43025
        case hy43025 => (intro w hSw; (try dsimp only at hSw); go_simp; (try with_reducible rfl))
        try simp only [Act.put, List.setIfInBounds_toArray, List.set_cons_zero, List.set_cons_succ]
        refine AnyL.one (i := 9) (o := { dst := some 120, op := Go.Op.call { callee := Go.Callee.value (Go.Operand.func 15), args := #[Go.Operand.tmp 115, Go.Operand.tmp 119], argTypes := #[72, 3] }, type := 72, pos := _, after := #[{ on := 4, ground := Go.Ground.data }, { on := 8, ground := Go.Ground.data }], guard := none }) (by kernel_rfl) rfl rfl (fun K' hK' => ?_)
        go_simp
        go_at_call 15
        refine hgr.mono ?_
        rintro e w17 ⟨rfl, own17, b17⟩
        have x1 : w17.cell? ⟨E, 21, none⟩ = some (.slice none 0 0) := (World.cell?_of_block (a := ⟨E, 21, none⟩) (b17.block E hE16)).trans yE
        have x2 : w17.cell? ⟨RB, 7, none⟩ = some (.int .i64 ((min (m * n) V : Nat) : Int)) := (World.cell?_of_block (a := ⟨RB, 7, none⟩) (b17.block RB hR16)).trans yR
        have xf : ∀ o, w17.frozen? ⟨E, o, none⟩ = false := fun o => (World.frozen?_of_block (a := ⟨E, o, none⟩) (b17.block E hE16)).trans (ef16 o)
        have HX17 := hideIt (And.intro own17 b17)
        clear own17 b17 hgr
        clear hHeld
        refine hK'.out _ _ ⟨x1, x2⟩ (fun hHeld => ?_)
        clear hK' K'
        try simp only [Act.put, List.setIfInBounds_toArray, List.set_cons_zero, List.set_cons_succ]
        refine AnyL.take2 (i := 10) (oi := { dst := some 121, op := Go.Op.nilCheck (Go.Operand.tmp 111), type := 0, pos := _, after := #[{ on := 0, ground := Go.Ground.data }, { on := 0, ground := Go.Ground.phase }, { on := 1, ground := Go.Ground.phase }, { on := 2, ground := Go.Ground.phase }, { on := 3, ground := Go.Ground.phase }, { on := 4, ground := Go.Ground.phase }, { on := 5, ground := Go.Ground.phase }, { on := 6, ground := Go.Ground.phase }, { on := 7, ground := Go.Ground.phase }, { on := 8, ground := Go.Ground.phase }, { on := 9, ground := Go.Ground.phase }], guard := none }) (v := ?vv43026) (by kernel_rfl) (by kernel_rfl) rfl (by kernel_rfl) (by kernel_rfl) (by kernel_rfl) (fun _ _ _ h => h) (Or.inl ⟨by rfl, ?hy43026⟩) (by assumption) ?tk43026
        case hy43026 => (intro w hSw; (try dsimp only at hSw); go_simp; (try with_reducible rfl))
        try simp only [Act.put, List.setIfInBounds_toArray, List.set_cons_zero, List.set_cons_succ]
        refine AnyL.take2 (i := 11) (oi := { dst := some 122, op := Go.Op.fieldAddr 75 (Go.Operand.tmp 121) 11, type := 0, pos := _, after := #[{ on := 10, ground := Go.Ground.data }, { on := 0, ground := Go.Ground.phase }, { on := 1, ground := Go.Ground.phase }, { on := 2, ground := Go.Ground.phase }, { on := 3, ground := Go.Ground.phase }, { on := 4, ground := Go.Ground.phase }, { on := 5, ground := Go.Ground.phase }, { on := 6, ground := Go.Ground.phase }, { on := 7, ground := Go.Ground.phase }, { on := 8, ground := Go.Ground.phase }, { on := 9, ground := Go.Ground.phase }], guard := none }) (v := ?vv43027) (by kernel_rfl) (by kernel_rfl) rfl (by kernel_rfl) (by kernel_rfl) (by kernel_rfl) (fun _ _ _ h => h) (Or.inl ⟨by rfl, ?hy43027⟩) (by assumption) ?tk43027
        case hy43027 => (intro w hSw; (try dsimp only at hSw); go_simp; (try with_reducible rfl))
        try simp only [Act.put, List.setIfInBounds_toArray, List.set_cons_zero, List.set_cons_succ]
        refine AnyL.last (o := { dst := none, op := Go.Op.store 72 (Go.Operand.tmp 122) (Go.Operand.tmp 120), type := 0, pos := _, after := #[{ on := 11, ground := Go.Ground.data }, { on := 9, ground := Go.Ground.data }, { on := 9, ground := Go.Ground.chain }, { on := 0, ground := Go.Ground.phase }, { on := 1, ground := Go.Ground.phase }, { on := 2, ground := Go.Ground.phase }, { on := 3, ground := Go.Ground.phase }, { on := 4, ground := Go.Ground.phase }, { on := 5, ground := Go.Ground.phase }, { on := 6, ground := Go.Ground.phase }, { on := 7, ground := Go.Ground.phase }, { on := 8, ground := Go.Ground.phase }, { on := 9, ground := Go.Ground.phase }], guard := none }) (by kernel_rfl) rfl (by kernel_rfl) (fun K' hK' => ?_)
        go_simp
        clear hHeld
        refine hK'.out _ _ ?_
        clear hK' K'
        try simp only [Act.put, List.setIfInBounds_toArray, List.set_cons_zero, List.set_cons_succ]
        obtain ⟨E16, X16, b016, LB16, c016, kz6, gl16, ag14⟩ := H16.out
        obtain ⟨own17, b17'⟩ := HX17.out
        have b17 : Below w16.heap.size w16 w17 := ⟨b17'.os, b17'.tape, b17'.output, b17'.size, b17'.block⟩
        obtain ⟨ρ1, ρ2, ρ3, ρ4, ρ5, ρ6, ρ7, ρ8⟩ := HR.out
        have hE16' := E16.lt
        have E18 := (E16.below b17).put (k := 21) (by omega) (.slice (some ⟨w16.heap.size, 0, none⟩) (min (m * n) V) (min (m * n) V))
        have k18 : ∀ q, q < w16.heap.size → q ≠ E → (w17.setCell ⟨E, 21, none⟩ (.slice (some ⟨w16.heap.size, 0, none⟩) (min (m * n) V) (min (m * n) V))).heap[q]? = w16.heap[q]? := fun q h1 h2 => (far_set h2).trans (b17.block q h1)
        have X18 : RuX (w17.setCell ⟨E, 21, none⟩ (.slice (some ⟨w16.heap.size, 0, none⟩) (min (m * n) V) (min (m * n) V))) ρ := X16.keep (fun q hq => k18 q (X16.lt hq) (by have := ρ8 q hq; omega))
        have own17' : w17.ownsRow w16.heap.size 99 1 (.slice (some ⟨w16.heap.size, 0, none⟩) (min (m * n) V) (min (m * n) V)) (min (m * n) V) (List.replicate (min (m * n) V) (.int .u32 0)) := own17
        have hGRn : w16.heap.size ≠ E := by omega
        have hg17 : w16.heap.size < w17.heap.size := (own17'.lt w16.heap.size rfl).2
        have G18 : RegZ (w17.setCell ⟨E, 21, none⟩ (.slice (some ⟨w16.heap.size, 0, none⟩) (min (m * n) V) (min (m * n) V))) w16.heap.size (min (m * n) V) := by
          refine ⟨fun j hj => ?_, fun o => (World.frozen?_setCell _ _ _ _).trans (own17'.frozenAt o)⟩
          have e := own17'.cellAt j (by omega)
          rw [List.getElem?_replicate, if_pos hj] at e
          exact (World.cell?_of_block (a := ⟨w16.heap.size, j, none⟩) (far_set hGRn)).trans e
        have b018 : Below w.heap.size w (w17.setCell ⟨E, 21, none⟩ (.slice (some ⟨w16.heap.size, 0, none⟩) (min (m * n) V) (min (m * n) V))) := below_cell (b016.trans (b17.mono (by have := b016.size; omega))) (by omega) _
        have LB18 := (World.cell?_of_block (a := ⟨LB, 0, none⟩) (k18 LB (World.block_lt_of_cell? _ _ LB16) (by omega))).trans LB16
        have c018 := (World.cell?_of_block (a := ⟨CB, 0, none⟩) (k18 CB (World.block_lt_of_cell? _ _ c016) (by omega))).trans c016
        have gl18 := (World.cell?_of_block (a := ⟨gl, 0, none⟩) (k18 gl (World.block_lt_of_cell? _ _ gl16) (by omega))).trans gl16
        have hs16 : w9.heap.size ≤ w16.heap.size := by omega
        have kz8 : ∀ q, q < w9.heap.size → q ≠ CB → q ≠ E → q ≠ LB → (w17.setCell ⟨E, 21, none⟩ (.slice (some ⟨w16.heap.size, 0, none⟩) (min (m * n) V) (min (m * n) V))).heap[q]? = w9.heap[q]? := fun q h1 h2 h3 h4 => (k18 q (by omega) h3).trans (kz6 q h1 h2 h3 h4)
        have ag18 : ∀ k, k ≠ 13 → k ≠ 21 → updV c14 21 (.slice (some ⟨w16.heap.size, 0, none⟩) (min (m * n) V) (min (m * n) V)) k = c9 k := fun k h1 h2 => (updV_other _ _ h2).trans (ag14 k h1)
        have a2118 : updV c14 21 (.slice (some ⟨w16.heap.size, 0, none⟩) (min (m * n) V) (min (m * n) V)) 21 = .slice (some ⟨w16.heap.size, 0, none⟩) (min (m * n) V) (min (m * n) V) := updV_same _ _ _
        have hs18 : w16.heap.size < (w17.setCell ⟨E, 21, none⟩ (.slice (some ⟨w16.heap.size, 0, none⟩) (min (m * n) V) (min (m * n) V))).heap.size := by simp; omega
        have hρl : ∀ q, ρ.has q → q < w16.heap.size := fun q hq => X16.lt hq
        have hgl16 : gl < w16.heap.size := World.block_lt_of_cell? _ _ gl16
        clear E16 X16 b016 LB16 c016 kz6 gl16 ag14 own17 own17' b17' b17 k18 HX17 H16 x1 x2 xf yE yR ef16 hE16 hR16 hg17
        generalize updV c14 21 (.slice (some ⟨w16.heap.size, 0, none⟩) (min (m * n) V) (min (m * n) V)) = c18 at *
        generalize (w17.setCell ⟨E, 21, none⟩ (.slice (some ⟨w16.heap.size, 0, none⟩) (min (m * n) V) (min (m * n) V))) = w18 at *
        obtain ⟨E9, Hh9, Hr9, M9, O9, S9, c09, c19, cf9, f09, f19, f29, ff9, L9, Lf9, b09, ag9, a59, a79, IN⟩ := H9.out
        have yE := E18.get (k := 22) ((ag18 22 (by omega) (by omega)).trans ((ag9 22 (by omega) (by omega)).trans rfl)) (by omega)
        have yR := X18.c4
        rw [ρ1, ρ5] at yR
        have ef16 := E18.fz
        have hE16 : E < w18.drew.heap.size := E18.lt
        have hR16 : RB < w18.drew.heap.size := World.block_lt_of_cell? _ _ yR
        have hgc := grown16 (w := w18.drew) (n := m) (by omega) hm0
        have H18 := hideIt (And.intro E18 (And.intro X18 (And.intro b018 (And.intro LB18 (And.intro c018 (And.intro kz8 (And.intro gl18 (And.intro ag18 (And.intro a2118 (And.intro G18 hρl))))))))))
        clear E18 X18 b018 LB18 c018 kz8 gl18 ag18 a2118 G18 hρl ρ1 ρ2 ρ3 ρ4 ρ5 ρ6 ρ7 ρ8 E9 Hh9 Hr9 M9 O9 S9 c09 c19 cf9 f09 f19 f29 ff9 L9 Lf9 b09 ag9 a59 a79 IN
        go_upto_region 20 with fail
        refine wp_region_l (l := 13) (S := (fun w' => w'.cell? ⟨E, 22, none⟩ = some (.slice none 0 0) ∧ w'.cell? ⟨RB, 4, none⟩ = some (.slice (some ⟨ρ.gj, 0, none⟩) m ρ.cj))) (by kernel_rfl) ⟨yE, yR⟩ (fun hHeld => ?_)
        refine AnyL.take2 (i := 0) (oi := { dst := some 123, op := Go.Op.move (Go.Operand.tmp 8), type := 43, pos := _, after := #[], guard := none }) (v := ?vv43028) (by kernel_rfl) (by kernel_rfl) rfl (by kernel_rfl) (by kernel_rfl) (by kernel_rfl) (fun _ _ _ h => h) (Or.inl ⟨by rfl, ?hy43028⟩) (by assumption) ?tk43028
        case hy43028 => (intro w hSw; (try dsimp only at hSw); go_simp; (try with_reducible rfl))
        try simp only [Act.put, List.setIfInBounds_toArray, List.set_cons_zero, List.set_cons_succ]
        refine AnyL.take2 (i := 1) (oi := { dst := some 124, op := Go.Op.move (Go.Operand.tmp 8), type := 43, pos := _, after := #[], guard := none }) (v := ?vv43029) (by kernel_rfl) (by kernel_rfl) rfl (by kernel_rfl) (by kernel_rfl) (by kernel_rfl) (fun _ _ _ h => h) (Or.inl ⟨by rfl, ?hy43029⟩) (by assumption) ?tk43029
        case hy43029 => (intro w hSw; (try dsimp only at hSw); go_simp; (try with_reducible rfl))
        try simp only [Act.put, List.setIfInBounds_toArray, List.set_cons_zero, List.set_cons_succ]
        refine AnyL.take2 (i := 2) (oi := { dst := some 125, op := Go.Op.nilCheck (Go.Operand.tmp 124), type := 0, pos := _, after := #[{ on := 1, ground := Go.Ground.data }], guard := none }) (v := ?vv43030) (by kernel_rfl) (by kernel_rfl) rfl (by kernel_rfl) (by kernel_rfl) (by kernel_rfl) (fun _ _ _ h => h) (Or.inl ⟨by rfl, ?hy43030⟩) (by assumption) ?tk43030
        case hy43030 => (intro w hSw; (try dsimp only at hSw); go_simp; (try with_reducible rfl))
        try simp only [Act.put, List.setIfInBounds_toArray, List.set_cons_zero, List.set_cons_succ]
        refine AnyL.take2 (i := 3) (oi := { dst := some 126, op := Go.Op.fieldAddr 75 (Go.Operand.tmp 125) 12, type := 0, pos := _, after := #[{ on := 2, ground := Go.Ground.data }], guard := none }) (v := ?vv43031) (by kernel_rfl) (by kernel_rfl) rfl (by kernel_rfl) (by kernel_rfl) (by kernel_rfl) (fun _ _ _ h => h) (Or.inl ⟨by rfl, ?hy43031⟩) (by assumption) ?tk43031
        case hy43031 => (intro w hSw; (try dsimp only at hSw); go_simp; (try with_reducible rfl))
        try simp only [Act.put, List.setIfInBounds_toArray, List.set_cons_zero, List.set_cons_succ]
        refine AnyL.take2 (i := 4) (oi := { dst := some 127, op := Go.Op.load 73 (Go.Operand.tmp 126), type := 73, pos := _, after := #[{ on := 3, ground := Go.Ground.data }], guard := none }) (v := ?vv43032) (by kernel_rfl) (by kernel_rfl) rfl (by kernel_rfl) (by kernel_rfl) (by kernel_rfl) (fun _ _ _ h => h) (Or.inl ⟨by rfl, ?hy43032⟩) (by assumption) ?tk43032
        case hy43032 => (intro w hSw; (try dsimp only at hSw); go_simp; (try with_reducible rfl))
        try simp only [Act.put, List.setIfInBounds_toArray, List.set_cons_zero, List.set_cons_succ]
        refine AnyL.take2 (i := 5) (oi := { dst := some 128, op := Go.Op.move (Go.Operand.tmp 13), type := 81, pos := _, after := #[], guard := none }) (v := ?vv43033) (by kernel_rfl) (by kernel_rfl) rfl (by kernel_rfl) (by kernel_rfl) (by kernel_rfl) (fun _ _ _ h => h) (Or.inl ⟨by rfl, ?hy43033⟩) (by assumption) ?tk43033
        case hy43033 => (intro w hSw; (try dsimp only at hSw); go_simp; (try with_reducible rfl))
        try simp only [Act.put, List.setIfInBounds_toArray, List.set_cons_zero, List.set_cons_succ]
        refine AnyL.take2 (i := 6) (oi := { dst := some 129, op := Go.Op.nilCheck (Go.Operand.tmp 128), type := 0, pos := _, after := #[{ on := 5, ground := Go.Ground.data }], guard := none }) (v := ?vv43034) (by kernel_rfl) (by kernel_rfl) rfl (by kernel_rfl) (by kernel_rfl) (by kernel_rfl) (fun _ _ _ h => h) (Or.inl ⟨by rfl, ?hy43034⟩) (by assumption) ?tk43034
        case hy43034 => (intro w hSw; (try dsimp only at hSw); go_simp; (try with_reducible rfl))
        try simp only [Act.put, List.setIfInBounds_toArray, List.set_cons_zero, List.set_cons_succ]
        refine AnyL.take2 (i := 7) (oi := { dst := some 130, op := Go.Op.fieldAddr 96 (Go.Operand.tmp 129) 2, type := 0, pos := _, after := #[{ on := 6, ground := Go.Ground.data }], guard := none }) (v := ?vv43035) (by kernel_rfl) (by kernel_rfl) rfl (by kernel_rfl) (by kernel_rfl) (by kernel_rfl) (fun _ _ _ h => h) (Or.inl ⟨by rfl, ?hy43035⟩) (by assumption) ?tk43035
        case hy43035 => (intro w hSw; (try dsimp only at hSw); go_simp; (try with_reducible rfl))
        try simp only [Act.put, List.setIfInBounds_toArray, List.set_cons_zero, List.set_cons_succ]
        refine AnyL.take2 (i := 8) (oi := { dst := some 131, op := Go.Op.load 93 (Go.Operand.tmp 130), type := 93, pos := _, after := #[{ on := 7, ground := Go.Ground.data }], guard := none }) (v := ?vv43036) (by kernel_rfl) (by kernel_rfl) rfl (by kernel_rfl) (by kernel_rfl) (by kernel_rfl) (fun _ _ _ h => h) (Or.inl ⟨by rfl, ?hy43036⟩) (by assumption) ?tk43036
        case hy43036 => (intro w hSw; (try dsimp only at hSw); go_simp; (try with_reducible rfl))
        try simp only [Act.put, List.setIfInBounds_toArray, List.set_cons_zero, List.set_cons_succ]
        refine AnyL.take2 (i := 9) (oi := { dst := some 132, op := Go.Op.call { callee := Go.Callee.builtin Go.Builtin.len, args := #[Go.Operand.tmp 131], argTypes := #[93] }, type := 3, pos := _, after := #[{ on := 8, ground := Go.Ground.data }], guard := none }) (v := ?vv43037) (by kernel_rfl) (by kernel_rfl) rfl (by kernel_rfl) (by kernel_rfl) (by kernel_rfl) (fun _ _ _ h => h) (Or.inl ⟨by rfl, ?hy43037⟩) (by assumption) ?tk43037
        case hy43037 => (intro w hSw; (try dsimp only at hSw); go_simp; (try with_reducible rfl))
        try simp only [Act.put, List.setIfInBounds_toArray, List.set_cons_zero, List.set_cons_succ]
        refine AnyL.one (i := 10) (o := { dst := some 133, op := Go.Op.call { callee := Go.Callee.value (Go.Operand.func 16), args := #[Go.Operand.tmp 127, Go.Operand.tmp 132], argTypes := #[73, 3] }, type := 73, pos := _, after := #[{ on := 4, ground := Go.Ground.data }, { on := 9, ground := Go.Ground.data }], guard := none }) (by kernel_rfl) rfl rfl (fun K' hK' => ?_)
        go_simp
        go_at_call 16
        refine hgc.mono ?_
        rintro e w17 ⟨rfl, own17, b17⟩
        have x1 : w17.cell? ⟨E, 22, none⟩ = some (.slice none 0 0) := (World.cell?_of_block (a := ⟨E, 22, none⟩) (b17.block E hE16)).trans yE
        have x2 : w17.cell? ⟨RB, 4, none⟩ = some (.slice (some ⟨ρ.gj, 0, none⟩) m ρ.cj) := (World.cell?_of_block (a := ⟨RB, 4, none⟩) (b17.block RB hR16)).trans yR
        have xf : ∀ o, w17.frozen? ⟨E, o, none⟩ = false := fun o => (World.frozen?_of_block (a := ⟨E, o, none⟩) (b17.block E hE16)).trans (ef16 o)
        have HX17 := hideIt (And.intro own17 b17)
        clear own17 b17 hgc
        clear hHeld
        refine hK'.out _ _ ⟨x1, x2⟩ (fun hHeld => ?_)
        clear hK' K'
        try simp only [Act.put, List.setIfInBounds_toArray, List.set_cons_zero, List.set_cons_succ]
        refine AnyL.take2 (i := 11) (oi := { dst := some 134, op := Go.Op.nilCheck (Go.Operand.tmp 123), type := 0, pos := _, after := #[{ on := 0, ground := Go.Ground.data }, { on := 0, ground := Go.Ground.phase }, { on := 1, ground := Go.Ground.phase }, { on := 2, ground := Go.Ground.phase }, { on := 3, ground := Go.Ground.phase }, { on := 4, ground := Go.Ground.phase }, { on := 5, ground := Go.Ground.phase }, { on := 6, ground := Go.Ground.phase }, { on := 7, ground := Go.Ground.phase }, { on := 8, ground := Go.Ground.phase }, { on := 9, ground := Go.Ground.phase }, { on := 10, ground := Go.Ground.phase }], guard := none }) (v := ?vv43038) (by kernel_rfl) (by kernel_rfl) rfl (by kernel_rfl) (by kernel_rfl) (by kernel_rfl) (fun _ _ _ h => h) (Or.inl ⟨by rfl, ?hy43038⟩) (by assumption) ?tk43038
        case hy43038 => (intro w hSw; (try dsimp only at hSw); go_simp; (try with_reducible rfl))
        try simp only [Act.put, List.setIfInBounds_toArray, List.set_cons_zero, List.set_cons_succ]
        refine AnyL.take2 (i := 12) (oi := { dst := some 135, op := Go.Op.fieldAddr 75 (Go.Operand.tmp 134) 12, type := 0, pos := _, after := #[{ on := 11, ground := Go.Ground.data }, { on := 0, ground := Go.Ground.phase }, { on := 1, ground := Go.Ground.phase }, { on := 2, ground := Go.Ground.phase }, { on := 3, ground := Go.Ground.phase }, { on := 4, ground := Go.Ground.phase }, { on := 5, ground := Go.Ground.phase }, { on := 6, ground := Go.Ground.phase }, { on := 7, ground := Go.Ground.phase }, { on := 8, ground := Go.Ground.phase }, { on := 9, ground := Go.Ground.phase }, { on := 10, ground := Go.Ground.phase }], guard := none }) (v := ?vv43039) (by kernel_rfl) (by kernel_rfl) rfl (by kernel_rfl) (by kernel_rfl) (by kernel_rfl) (fun _ _ _ h => h) (Or.inl ⟨by rfl, ?hy43039⟩) (by assumption) ?tk43039
        case hy43039 => (intro w hSw; (try dsimp only at hSw); go_simp; (try with_reducible rfl))
        try simp only [Act.put, List.setIfInBounds_toArray, List.set_cons_zero, List.set_cons_succ]
        refine AnyL.last (o := { dst := none, op := Go.Op.store 73 (Go.Operand.tmp 135) (Go.Operand.tmp 133), type := 0, pos := _, after := #[{ on := 12, ground := Go.Ground.data }, { on := 10, ground := Go.Ground.data }, { on := 10, ground := Go.Ground.chain }, { on := 0, ground := Go.Ground.phase }, { on := 1, ground := Go.Ground.phase }, { on := 2, ground := Go.Ground.phase }, { on := 3, ground := Go.Ground.phase }, { on := 4, ground := Go.Ground.phase }, { on := 5, ground := Go.Ground.phase }, { on := 6, ground := Go.Ground.phase }, { on := 7, ground := Go.Ground.phase }, { on := 8, ground := Go.Ground.phase }, { on := 9, ground := Go.Ground.phase }, { on := 10, ground := Go.Ground.phase }], guard := none }) (by kernel_rfl) rfl (by kernel_rfl) (fun K' hK' => ?_)
        go_simp
        clear hHeld
        refine hK'.out _ _ ?_
        clear hK' K'
        try simp only [Act.put, List.setIfInBounds_toArray, List.set_cons_zero, List.set_cons_succ]
        go_wp2
        go_roundg 0
        case measure => omega
        case rel =>
          obtain ⟨E18, X18, b018, LB18, c018, kz8, gl18, ag18, a2118, G18, hρl⟩ := H18.out
          obtain ⟨own17, b17'⟩ := HX17.out
          have b17 : Below w18.heap.size w18 w17 := ⟨b17'.os, b17'.tape, b17'.output, b17'.size, b17'.block⟩
          obtain ⟨ρ1, ρ2, ρ3, ρ4, ρ5, ρ6, ρ7, ρ8⟩ := HR.out
          obtain ⟨E9, Hh9, Hr9, M9, O9, S9, c09, c19, cf9, f09, f19, f29, ff9, L9, Lf9, b09, ag9, a59, a79, IN⟩ := H9.out
          have own17' : w17.ownsRow w18.heap.size 102 6 (.slice (some ⟨w18.heap.size, 0, none⟩) m m) m (madeCells #[.int .i64 0, .int .i64 0, .int .i64 0, .int .i32 0, .int .i64 0, .slice none 0 0] (m * 6)).toList := own17
          have hE18 := E18.lt
          have E20 := (E18.below b17).put (k := 22) (by omega) (.slice (some ⟨w18.heap.size, 0, none⟩) m m)
          have k20 : ∀ q, q < w18.heap.size → q ≠ E → (w17.setCell ⟨E, 22, none⟩ (.slice (some ⟨w18.heap.size, 0, none⟩) m m)).heap[q]? = w18.heap[q]? := fun q h1 h2 => (far_set h2).trans (b17.block q h1)
          have kzz : ∀ q, q < w9.heap.size → q ≠ CB → q ≠ E → q ≠ LB → (w17.setCell ⟨E, 22, none⟩ (.slice (some ⟨w18.heap.size, 0, none⟩) m m)).heap[q]? = w9.heap[q]? := fun q h1 h2 h3 h4 => (k20 q (by omega) h3).trans (kz8 q h1 h2 h3 h4)
          have hGCn : w18.heap.size ≠ E := by omega
          have hFl9 : FB < w9.heap.size := World.block_lt_of_cell? _ _ f09
          have kF := kzz FB hFl9 (by omega) (by omega) (by omega)
          refine ⟨1, by omega, by go_num, fun h => by omega, fun _ => ⟨hbd'.out, RB, gl, cgl, w16.heap.size, w18.heap.size, _, w9.heap.size + 1, E20, fun k h1 h2 h3 => (updV_other _ _ h3).trans (ag18 k h1 h2), (updV_other _ _ (by omega)).trans a2118, updV_same _ _ _, Hh9.blk (kzz hb Hh9.lt (by omega) (by omega) (by omega)), Hr9.blk (kzz rb Hr9.lt (by omega) (by omega) (by omega)), M9.blk (kzz nb M9.lt (by omega) (by omega) (by omega)), own_one O9 (fun q hq => kzz q (O9.lt q hq).2 (by have := (O9.lt q hq).1; omega) (by have := (O9.lt q hq).1; omega) ?_), S9.keep (kzz SB S9.lt.1 (by omega) (by omega) (by omega)) (kzz mi S9.lt.2 (by omega) (by omega) (by omega)), (World.cell?_of_block (a := ⟨CB, 0, none⟩) (k20 CB (World.block_lt_of_cell? _ _ c018) (by omega))).trans c018, ⟨(World.cell?_of_block (a := ⟨FB, 0, none⟩) kF).trans f09, (World.cell?_of_block (a := ⟨FB, 1, none⟩) kF).trans f19, (World.cell?_of_block (a := ⟨FB, 2, none⟩) kF).trans f29, fun o => (World.frozen?_of_block (a := ⟨FB, o, none⟩) kF).trans (ff9 o)⟩, (World.cell?_of_block (a := ⟨LB, 0, none⟩) (k20 LB (World.block_lt_of_cell? _ _ LB18) (by omega))).trans LB18, (World.cell?_of_block (a := ⟨gl, 0, none⟩) (k20 gl (World.block_lt_of_cell? _ _ gl18) (by omega))).trans gl18, ⟨ρ, X18.keep (fun q hq => k20 q (X18.lt hq) (by have := ρ8 q hq; omega)), ρ1, ρ2, ρ3, ρ4, ρ5, ρ6, ρ7, fun q hq => ⟨ρ8 q hq, hρl q hq⟩⟩, G18.blk (k20 _ hs18 hGRn), fun k hk => ?_, fun o => (World.frozen?_setCell _ _ _ _).trans (own17'.frozenAt o), below_cell (b018.trans (b17.mono (by have := b018.size; omega))) (by omega) _, by omega⟩⟩
          · have := HO9.out q hq; omega
          · have z : ∀ x, x < 6 → (w17.setCell ⟨E, 22, none⟩ (.slice (some ⟨w18.heap.size, 0, none⟩) m m)).cell? ⟨w18.heap.size, k * 6 + x, none⟩ = ([.int .i64 0, .int .i64 0, .int .i64 0, .int .i32 0, .int .i64 0, .slice none 0 0] : List Value)[x]? := fun x hx => by
              have e := own17'.cellAt (k * 6 + x) (by omega)
              refine (World.cell?_of_block (a := ⟨w18.heap.size, k * 6 + x, none⟩) (far_set hGCn)).trans (e.trans (made_six _ _ _ _ _ _ k x hx hk))
            exact ⟨z 0 (by omega), z 1 (by omega), z 2 (by omega), z 3 (by omega), z 4 (by omega), z 5 (by omega)⟩
    have ein : i = 1 := by omega
    obtain ⟨hbd, NR⟩ := hI1 ein
    have i1 : ¬ ((i : Int) < 1) := by omega
    clear hI0 hI1 hin hi ein
    obtain ⟨RB, gl, cgl, GR, GC, c10, lo, E10, ag10, a21, a22, Hh10, Hr10, M10, O10, S10, c010, ⟨f010, f110, f210, ff10⟩, LB10, gl10, ⟨ρ, X10, ρ1, ρ2, ρ3, ρ4, ρ5, ρ6, ρ7, ρ8⟩, G10, CN10, cf10, b010, hord⟩ := NR
    obtain ⟨E9, Hh9, Hr9, M9, O9, S9, c09, c19, cf9, f09, f19, f29, ff9, L9, Lf9, b09, ag9, a59, a79, IN⟩ := H9.out
    obtain ⟨_, _, _, _, _, _, _, _, _, _, hF⟩ := HQ.out
    have hkn : ∃ kn, RlK ρ kn := by
      rcases hF HF.out hbd with ⟨h1, h2⟩ | h
      · exact ⟨_, RlK_one (by rw [ρ4]; exact h1) (fun j => by rw [ρ7]; simp [h2, Nat.mod_one])⟩
      · refine ⟨_, RlK_all (fun j t hj ht => ?_)⟩
        rw [ρ5] at hj
        rw [ρ4] at ht
        rw [ρ7, ρ4]
        have h3 : (j + 1) * n ≤ m * n := Nat.mul_le_mul_right n (by omega)
        rw [Nat.add_mul, Nat.one_mul] at h3
        exact Nat.mod_eq_of_lt (by omega)
    obtain ⟨w10, hw10⟩ : ∃ w10, w10 = wr := ⟨_, rfl⟩
    subst hw10
    have hminp : 0 < min (m * n) V := by have : 0 < m * n := Nat.mul_pos hm0 hn0; omega
    have hGRlt : GR < w10.heap.size := World.block_lt_of_cell? _ _ (G10.c 0 hminp)
    have hs910 : w9.heap.size ≤ w10.heap.size := by omega
    have hfc := facts_any (w := w10) (w0 := w) (CB := CB) (nb := nb) (gd := gd) (B := B) (n := n) E10 ((ag10 0 (by omega) (by omega) (by omega)).trans ((ag9 0 (by omega) (by omega)).trans rfl)) ((ag10 4 (by omega) (by omega) (by omega)).trans ((ag9 4 (by omega) (by omega)).trans rfl)) ((ag10 6 (by omega) (by omega) (by omega)).trans ((ag9 6 (by omega) (by omega)).trans rfl)) ((ag10 16 (by omega) (by omega) (by omega)).trans ((ag9 16 (by omega) (by omega)).trans rfl)) M10 rfl S10 Hr10 c010 IN.d0 IN.d1 IN.on b010 HF.out hn0 hB ⟨by omega, by omega, by omega, by omega, by omega⟩ ⟨by omega, by omega, by omega, by omega, by omega, by omega, by omega, by omega, by omega, by omega, by omega, by omega, by omega, by omega⟩
    have HN := hideIt (And.intro ag10 (And.intro a21 (And.intro a22 (And.intro Hh10 (And.intro M10 (And.intro O10 (And.intro (And.intro f010 (And.intro f110 (And.intro f210 ff10))) (And.intro LB10 (And.intro gl10 (And.intro X10 (And.intro G10 (And.intro CN10 (And.intro cf10 (And.intro b010 (And.intro ag9 (And.intro a59 (And.intro a79 hkn)))))))))))))))))
    have HR := hideIt (And.intro ρ1 (And.intro ρ2 (And.intro ρ3 (And.intro ρ4 (And.intro ρ5 (And.intro ρ6 (And.intro ρ7 ρ8)))))))
    have HBD := hideIt hbd
    clear E10 ag10 a21 a22 Hh10 Hr10 M10 O10 S10 c010 f010 f110 f210 ff10 LB10 gl10 X10 ρ1 ρ2 ρ3 ρ4 ρ5 ρ6 ρ7 ρ8 G10 CN10 cf10 b010 E9 Hh9 Hr9 M9 O9 S9 c09 c19 cf9 f09 f19 f29 ff9 L9 Lf9 b09 ag9 a59 a79 IN hF hkn hbd n19 u0 u1 u2
    go_wp2_with fail
    refine hfc.mono ?_
    rintro e w12 ⟨hfA, hfB, FD⟩
    obtain ⟨ag10, a21, a22, Hh10, M10, O10, ⟨f010, f110, f210, ff10⟩, LB10, gl10, X10, G10, CN10, cf10, b010, ag9, a59, a79, hkn⟩ := HN.out
    have hs12 := FD.f.size
    have k12 : ∀ q, q < w10.heap.size → q ≠ E → q ≠ SB → q ≠ mi → q ≠ rb → w12.heap[q]? = w10.heap[q]? := fun q h1 h2 h3 h4 h5 => FD.f.block q h1 (fun e => by rcases e with e | e | e | e; exact h2 e; exact h3 e; exact h4 e; exact h5 e)
    have kF := k12 FB (World.block_lt_of_cell? _ _ f010) (by omega) (by omega) (by omega) (by omega)
    have x0 := (World.cell?_of_block (a := ⟨FB, 0, none⟩) kF).trans f010
    have x1 := (World.cell?_of_block (a := ⟨FB, 1, none⟩) kF).trans f110
    have x2 := (World.cell?_of_block (a := ⟨FB, 2, none⟩) kF).trans f210
    have xf : ∀ o, w12.frozen? ⟨FB, o, none⟩ = false := fun o => (World.frozen?_of_block (a := ⟨FB, o, none⟩) kF).trans (ff10 o)
    have hNBe := HNB.out.1
    have b012 : Below w.heap.size w w12 := ⟨FD.f.os.trans b010.os, FD.f.tape.trans b010.tape, FD.f.output.trans b010.output, Nat.le_trans b010.size hs12, fun q hq => (k12 q (by have := b010.size; omega) (by omega) (by omega) (by omega) (by omega)).trans (b010.block q hq)⟩
    by_cases hB0' : B = 0
    · have he := hfA hB0'
      subst he
      have bA := one_alloc w12 (.cells #[.int .u8 11, .int .i64 (-1), .int .i64 0] 45)
      have v0 := cell_later bA x0
      have v1 := cell_later bA x1
      have v2 := cell_later bA x2
      have hFl12 : FB < w12.heap.size := World.block_lt_of_cell? _ _ x0
      have vf : ∀ o, (w12.alloc (.cells #[.int .u8 11, .int .i64 (-1), .int .i64 0] 45)).frozen? ⟨FB, o, none⟩ = false := fun o => (World.frozen?_of_block (a := ⟨FB, o, none⟩) (bA.block FB hFl12)).trans (xf o)
      have HB := hideIt (And.intro (then_ b012 bA) (And.intro hB0' (show w.heap.size ≤ FB by omega)))
      have q0 : (w12.alloc (.cells #[.int .u8 11, .int .i64 (-1), .int .i64 0] 45)).cell? ⟨w12.heap.size, 0, none⟩ = some (.int .u8 11) := new_cell rfl _ _ 0
      have q1 : (w12.alloc (.cells #[.int .u8 11, .int .i64 (-1), .int .i64 0] 45)).cell? ⟨w12.heap.size, 1, none⟩ = some (.int .i64 (-1)) := new_cell rfl _ _ 1
      have q2 : (w12.alloc (.cells #[.int .u8 11, .int .i64 (-1), .int .i64 0] 45)).cell? ⟨w12.heap.size, 2, none⟩ = some (.int .i64 0) := new_cell rfl _ _ 2
      clear hfA hfB FD ag10 a21 a22 Hh10 M10 O10 f010 f110 f210 ff10 LB10 gl10 X10 G10 CN10 cf10 b010 ag9 a59 a79 hkn hs12 k12 kF x0 x1 x2 xf b012 bA hfc hB0'
      go_upto_region 24 with fail
      generalize hp16 : w12.heap.size = p16 at *
      generalize w12.alloc (.cells #[.int .u8 11, .int .i64 (-1), .int .i64 0] 45) = w13 at *
      refine wp_region_l (l := 2) (S := (fun w' => w'.cell? ⟨p16, 0, none⟩ = some (.int .u8 11) ∧ w'.cell? ⟨p16, 1, none⟩ = some (.int .i64 (-1)) ∧ w'.cell? ⟨p16, 2, none⟩ = some (.int .i64 0))) (by kernel_rfl) ⟨q0, q1, q2⟩ (fun hHeld => ?_)
      refine AnyL.take2 (i := 0) (oi := { dst := some 143, op := Go.Op.load 45 (Go.Operand.tmp 16), type := 45, pos := _, after := #[{ on := 1, ground := Go.Ground.gcOnly Go.Departure.lateStores }], guard := none }) (v := ?vv43040) (by kernel_rfl) (by kernel_rfl) rfl (by kernel_rfl) (by kernel_rfl) (by kernel_rfl) (fun _ _ _ h => h) (Or.inl ⟨by rfl, ?hy43040⟩) (by assumption) ?tk43040
      case hy43040 => (intro w hSw; (try dsimp only at hSw); go_simp; (try with_reducible rfl))
      try simp only [Act.put, List.setIfInBounds_toArray, List.set_cons_zero, List.set_cons_succ]
      refine AnyL.take2 (i := 1) (oi := { dst := some 6, op := Go.Op.assign (Go.Operand.const (Go.Value.pointer none)), type := 43, pos := _, after := #[{ on := 0, ground := Go.Ground.textOnly Go.Departure.lateStores }], guard := none }) (v := ?vv43041) (by kernel_rfl) (by kernel_rfl) rfl (by kernel_rfl) (by kernel_rfl) (by kernel_rfl) (fun _ _ _ h => h) (Or.inl ⟨by rfl, ?hy43041⟩) (by assumption) ?tk43041
      case hy43041 => (intro w hSw; (try dsimp only at hSw); go_simp; (try with_reducible rfl))
      try simp only [Act.put, List.setIfInBounds_toArray, List.set_cons_zero, List.set_cons_succ]
      refine AnyL.last (o := { dst := none, op := Go.Op.store 45 (Go.Operand.tmp 7) (Go.Operand.tmp 143), type := 0, pos := _, after := #[{ on := 0, ground := Go.Ground.data }, { on := 1, ground := Go.Ground.chain }, { on := 0, ground := Go.Ground.phase }, { on := 1, ground := Go.Ground.phase }], guard := none }) (by kernel_rfl) rfl (by kernel_rfl) (fun K' hK' => ?_)
      go_simp
      clear hHeld
      refine hK'.out _ _ ?_
      clear hK' K'
      try simp only [Act.put, List.setIfInBounds_toArray, List.set_cons_zero, List.set_cons_succ]
      go_wp2
      refine bodyPost_ret (v := .tuple #[.pointer none, .agg #[.int .u8 11, .int .i64 (-1), .int .i64 0]]) ?_ rfl ?_
      · rw [results_tmp_cell rfl]
        go_simp
      · obtain ⟨b06, hB0', hFw⟩ := HB.out
        have hn32 := HF.out
        exact ⟨fun h => by omega, fun _ h => absurd h HBD.out, fun _ _ _ => ⟨-1, 0, rfl⟩, fun _ _ h => by omega, below_dr (below_cell (below_cell (below_cell b06 hFw _) hFw _) hFw _)⟩
    · have he := hfB (by omega)
      subst he
      obtain ⟨ρ1, ρ2, ρ3, ρ4, ρ5, ρ6, ρ7, ρ8⟩ := HR.out
      obtain ⟨d, sv, wy, r1, r2, r3, r4, r5, r6, r7⟩ := FD.r
      have bA := one_alloc w12 (.cells #[.int .u8 0, .int .i64 0, .int .i64 0] 45)
      have b013 := then_ b012 bA
      have k13 : ∀ q, q < w10.heap.size → q ≠ E → q ≠ SB → q ≠ mi → q ≠ rb → (w12.alloc (.cells #[.int .u8 0, .int .i64 0, .int .i64 0] 45)).heap[q]? = w10.heap[q]? := fun q h1 h2 h3 h4 h5 => (bA.block q (by omega)).trans (k12 q h1 h2 h3 h4 h5)
      have E13 := FD.e.below bA
      have hR1 := hord.1
      have Hh13 := Hh10.blk (k13 hb Hh10.lt (by omega) (by omega) (by omega) (by omega))
      have Hr13 := r1.below bA
      have D13 := r2.below bA
      have L13 := r3.below bA
      have M13 := M10.blk (k13 nb M10.lt (by omega) (by omega) (by omega) (by omega))
      have hOl : ∀ q, (c6 5).ownBlock = some q → w5.heap.size + 2 ≤ q ∧ q < LB ∧ q ≠ rb ∧ q ≠ hb := fun q hq => ⟨(O10.lt q hq).1, HO9.out q hq, fun e => hr5 (e ▸ hq), fun e => hh5 (e ▸ hq)⟩
      have O13 : (w12.alloc (.cells #[.int .u8 0, .int .i64 0, .int .i64 0] 45)).ownsRow (w5.heap.size + 2) 89 1 (c6 5) 2 (xsF hb rb 2) := own_one O10 (fun q hq => k13 q (O10.lt q hq).2 (by have := hOl q hq; omega) (by have := hOl q hq; omega) (by have := hOl q hq; omega) (hOl q hq).2.2.1)
      have LB13 := (World.cell?_of_block (a := ⟨LB, 0, none⟩) (k13 LB (World.block_lt_of_cell? _ _ LB10) (by omega) (by omega) (by omega) (by omega))).trans LB10
      have gl13 := (World.cell?_of_block (a := ⟨gl, 0, none⟩) (k13 gl (World.block_lt_of_cell? _ _ gl10) (by omega) (by omega) (by omega) (by omega))).trans gl10
      have X13 : RuX (w12.alloc (.cells #[.int .u8 0, .int .i64 0, .int .i64 0] 45)) ρ := X10.keep (fun q hq => have hq8 := ρ8 q hq; k13 q (X10.lt hq) (by omega) (by omega) (by omega) (by omega))
      have hGRl : GR < w10.heap.size := World.block_lt_of_cell? _ _ (G10.c 0 (by have : 0 < m * n := Nat.mul_pos hm0 hn0; omega))
      have hGCl : GC < w10.heap.size := World.block_lt_of_cell? _ _ (CN10 0 hm0).c0
      have G13 := G10.blk (k13 GR hGRl (by omega) (by omega) (by omega) (by omega))
      have CN13 : ∀ k, k < m → CurN (w12.alloc (.cells #[.int .u8 0, .int .i64 0, .int .i64 0] 45)) GC k := fun k hk => (CN10 k hk).blk (k13 GC hGCl (by omega) (by omega) (by omega) (by omega))
      have cf13 : ∀ o, (w12.alloc (.cells #[.int .u8 0, .int .i64 0, .int .i64 0] 45)).frozen? ⟨GC, o, none⟩ = false := fun o => (World.frozen?_of_block (a := ⟨GC, o, none⟩) (k13 GC hGCl (by omega) (by omega) (by omega) (by omega))).trans (cf10 o)
      have y0 := cell_later bA x0
      have y1 := cell_later bA x1
      have y2 := cell_later bA x2
      have hFl12 : FB < w12.heap.size := World.block_lt_of_cell? _ _ x0
      have yf : ∀ o, (w12.alloc (.cells #[.int .u8 0, .int .i64 0, .int .i64 0] 45)).frozen? ⟨FB, o, none⟩ = false := fun o => (World.frozen?_of_block (a := ⟨FB, o, none⟩) (bA.block FB hFl12)).trans (xf o)
      have q0 : (w12.alloc (.cells #[.int .u8 0, .int .i64 0, .int .i64 0] 45)).cell? ⟨w12.heap.size, 0, none⟩ = some (.int .u8 0) := new_cell rfl _ _ 0
      obtain ⟨RL, cr, e5, hcr, hRL, hRLl, hRLc, _⟩ := own_full O13 (by omega)
      have rl0 : (w12.alloc (.cells #[.int .u8 0, .int .i64 0, .int .i64 0] 45)).cell? ⟨RL, 0, none⟩ = some (.pointer (some ⟨hb, 0, none⟩)) := hRLc 0 (by omega)
      have rl1 : (w12.alloc (.cells #[.int .u8 0, .int .i64 0, .int .i64 0] 45)).cell? ⟨RL, 1, none⟩ = some (.pointer (some ⟨rb, 0, none⟩)) := hRLc 1 (by omega)
      have hRLo := hOl RL (by rw [e5]; rfl)
      have yE5 := E13.get (k := 5) ((updV_other _ _ (by omega)).trans ((ag10 5 (by omega) (by omega) (by omega)).trans (a59.trans e5))) (by omega)
      have hrel : hb < (w12.alloc (.cells #[.int .u8 0, .int .i64 0, .int .i64 0] 45)).heap.size ∧ rb < (w12.alloc (.cells #[.int .u8 0, .int .i64 0, .int .i64 0] 45)).heap.size ∧ RL < (w12.alloc (.cells #[.int .u8 0, .int .i64 0, .int .i64 0] 45)).heap.size := ⟨Hh13.lt, Hr13.lt, hRLl⟩
      have hdl : ∀ q, d.ownBlock = some q → w10.heap.size < q := r6
      have hvl : ∀ q, sv.ownBlock = some q → w10.heap.size < q := r7
      have H13 := hideIt (And.intro E13 (And.intro Hh13 (And.intro Hr13 (And.intro D13 (And.intro L13 (And.intro M13 (And.intro LB13 (And.intro gl13 (And.intro X13 (And.intro G13 (And.intro CN13 (And.intro cf13 (And.intro y0 (And.intro y1 (And.intro y2 (And.intro yf (And.intro b013 (And.intro ag10 (And.intro a21 (And.intro a22 (And.intro ag9 (And.intro a59 (And.intro a79 (And.intro hkn (And.intro e5 (And.intro hdl (And.intro hvl (And.intro r4 r5))))))))))))))))))))))))))))
      have HB0 := hideIt hB0'
      clear hfA hfB FD ag10 a21 a22 Hh10 M10 O10 f010 f110 f210 ff10 LB10 gl10 X10 G10 CN10 cf10 b010 ag9 a59 a79 hkn hs12 k12 kF x0 x1 x2 xf b012 hfc hB0' ρ1 ρ2 ρ3 ρ4 ρ5 ρ6 ρ7 ρ8 r1 r2 r3 r4 r5 r6 r7 b013 k13 E13 Hh13 Hr13 D13 L13 M13 O13 LB13 gl13 X13 G13 CN13 cf13 y0 y1 y2 yf hRLc e5 hdl hvl hOl
      go_upto_region 23 with fail
      generalize w12.alloc (.cells #[.int .u8 0, .int .i64 0, .int .i64 0] 45) = w13 at *
      go_wp2_with fail
      go_loopg [149] 2 (fun gg v wr => ∃ i : Nat, i + gg = 2 ∧ v = .int .i64 (i : Int) ∧ (i = 0 → wr = w13) ∧ (i = 1 → RelAt wr hb (nmS false) { rel0 0 with old := 0, cur := 0 } ∧ Wr hb w13 wr) ∧ (i = 2 → RelAt wr hb (nmS false) { rel0 0 with old := 0, cur := 0 } ∧ RelAt wr rb (nmS true) { rel0 n with rows := 1, data := d, slots := sv, why := wy, old := 1, cur := 1 } ∧ Ws (fun q => q = hb ∨ q = rb) w13 wr))
      case atStart => exact ⟨0, by omega, rfl, fun _ => rfl, fun h => by omega, fun h => by omega⟩
      case round =>
      obtain ⟨i, hi, rfl, hI0, hI1, hI2⟩ := hrel
      obtain ⟨E13, Hh13, Hr13, D13, L13, M13, LB13, gl13, X13, G13, CN13, cf13, y0, y1, y2, yf, b013, ag10, a21, a22, ag9, a59, a79, hkn, e5, hdl, hvl, r4, r5⟩ := H13.out
      by_cases hi0 : i = 0
      · subst hi0
        have ew := (hI0 rfl).symm
        subst ew
        have hsl := seal_any Hh13
        have HX0 := hideIt (show True from trivial)
        clear hI0 hI1 hI2 E13 Hh13 Hr13 D13 L13 M13 LB13 gl13 X13 G13 CN13 cf13 y0 y1 y2 yf b013 ag10 a21 a22 ag9 a59 a79 hkn e5 hdl hvl r4 r5
        go_wp2_with fail
        refine hsl.mono ?_
        rintro e w14 ⟨rfl, hx, hW⟩
        have HX := hideIt (And.intro hx hW)
        clear hx hW hsl
        go_wp2
        go_roundg 1
        case measure => omega
        case rel => exact ⟨1, by omega, by go_num, fun h => by omega, fun _ => HX.out, fun h => by omega⟩
      by_cases hi1 : i = 1
      · subst hi1
        obtain ⟨Hh14, W14⟩ := hI1 rfl
        have Hr14 := Hr13.blk (W14.block rb Hr13.lt (by omega))
        have hsl := seal_any Hr14
        have yl1 := (World.cell?_of_block (a := ⟨RL, 1, none⟩) (W14.block RL hrel.2.2 (by omega))).trans rl1
        have HX0 := hideIt (And.intro Hh14 W14)
        clear hI0 hI1 hI2 E13 Hh13 Hr13 D13 L13 M13 LB13 gl13 X13 G13 CN13 cf13 y0 y1 y2 yf b013 ag10 a21 a22 ag9 a59 a79 hkn e5 hdl hvl r4 r5 Hh14 W14 Hr14
        go_wp2_with fail
        refine hsl.mono ?_
        rintro e w15 ⟨rfl, hx, hW⟩
        have HX := hideIt (And.intro hx hW)
        clear hx hW hsl
        go_wp2
        go_roundg 0
        case measure => omega
        case rel =>
          obtain ⟨hx, hW⟩ := HX.out
          obtain ⟨Hh14, W14⟩ := HX0.out
          exact ⟨2, by omega, by go_num, fun h => by omega, fun h => by omega, fun _ => ⟨Hh14.blk (hW.block hb Hh14.lt hhr), hx, (Ws.of_wr W14 (.inl rfl)).trans (Ws.of_wr hW (.inr rfl))⟩⟩
      have hi2 : i = 2 := by omega
      obtain ⟨Hh15, Hr15, W15⟩ := hI2 hi2
      have i1 : ¬ ((i : Int) < 2) := by omega
      have k15 : ∀ q, q < w13.heap.size → q ≠ hb → q ≠ rb → wr.heap[q]? = w13.heap[q]? := fun q h1 h2 h3 => W15.block q h1 (fun e => by rcases e with e | e; exact h2 e; exact h3 e)
      have hFl13 : FB < w13.heap.size := World.block_lt_of_cell? _ _ y0
      have kF := k15 FB hFl13 (by omega) (by omega)
      have v0 := (World.cell?_of_block (a := ⟨FB, 0, none⟩) kF).trans y0
      have v1 := (World.cell?_of_block (a := ⟨FB, 1, none⟩) kF).trans y1
      have v2 := (World.cell?_of_block (a := ⟨FB, 2, none⟩) kF).trans y2
      have vf : ∀ o, wr.frozen? ⟨FB, o, none⟩ = false := fun o => (World.frozen?_of_block (a := ⟨FB, o, none⟩) kF).trans (yf o)
      have HXX := hideIt (And.intro Hh15 (And.intro Hr15 (And.intro W15 k15)))
      clear hI0 hI1 hI2 E13 Hh13 Hr13 D13 L13 M13 LB13 gl13 X13 G13 CN13 cf13 y0 y1 y2 yf b013 ag10 a21 a22 ag9 a59 a79 hkn e5 hdl hvl r4 r5 Hh15 Hr15 W15 k15 kF hi hi0 hi1 hi2
      go_wp2
      refine bodyPost_ret (v := .tuple #[.pointer (some ⟨E, 0, none⟩), .agg #[.int .u8 0, .int .i64 0, .int .i64 0]]) ?_ rfl ?_
      · rw [results_tmp_cell rfl]
        go_simp
      · obtain ⟨E13, Hh13, Hr13, D13, L13, M13, LB13, gl13, X13, G13, CN13, cf13, y0, y1, y2, yf, b013, ag10, a21, a22, ag9, a59, a79, hkn, e5, hdl, hvl, r4, r5⟩ := H13.out
        obtain ⟨Hh15, Hr15, W15, k15⟩ := HXX.out
        obtain ⟨ρ1, ρ2, ρ3, ρ4, ρ5, ρ6, ρ7, ρ8⟩ := HR.out
        obtain ⟨kn, hkn⟩ := hkn
        have hn32 := HF.out
        have hNBe := HNB.out.1
        have hwF : w.heap.size ≤ FB := by omega
        have kz : ∀ q, q < w13.heap.size → q ≠ hb → q ≠ rb → q ≠ FB → (((wr.setCell ⟨FB, 0, none⟩ (.int .u8 0)).setCell ⟨FB, 1, none⟩ (.int .i64 0)).setCell ⟨FB, 2, none⟩ (.int .i64 0)).heap[q]? = w13.heap[q]? := fun q h1 h2 h3 h4 => (far_set h4).trans ((far_set h4).trans ((far_set h4).trans (k15 q h1 h2 h3)))
        have kw : ∀ q, q ≠ FB → (((wr.setCell ⟨FB, 0, none⟩ (.int .u8 0)).setCell ⟨FB, 1, none⟩ (.int .i64 0)).setCell ⟨FB, 2, none⟩ (.int .i64 0)).heap[q]? = wr.heap[q]? := fun q h4 => (far_set h4).trans ((far_set h4).trans (far_set h4))
        have b0r : Below w.heap.size w wr := ⟨W15.os.trans b013.os, W15.tape.trans b013.tape, W15.output.trans b013.output, by have := b013.size; have := W15.size; omega, fun q hq => (k15 q (by have := b013.size; omega) (by omega) (by omega)).trans (b013.block q hq)⟩
        have hbl := below_cell (below_cell (below_cell b0r hwF (.int .u8 0) (o := 0)) hwF (.int .i64 0) (o := 1)) hwF (.int .i64 0) (o := 2)
        refine ⟨fun h => by omega, fun _ h => absurd h HBD.out, fun _ _ h => absurd h HB0.out, fun _ _ _ => ?_, hbl⟩
        have hX1 : ∀ q, ρ.has q → q < w13.heap.size := fun q hq => X13.lt hq
        have cI' : ∀ k, k ≠ 5 → k ≠ 7 → k ≠ 13 → k ≠ 16 → k ≠ 21 → k ≠ 22 → updV c10 16 (.int .i64 1) k = cI B SB nb k := fun k h1 h2 h3 h4 h5 h6 => (updV_other _ _ h4).trans ((ag10 k h3 h5 h6).trans (ag9 k h1 h2))
        have hGRl : GR < w13.heap.size := World.block_lt_of_cell? _ _ (G13.c 0 hminp)
        have hGCl : GC < w13.heap.size := World.block_lt_of_cell? _ _ (CN13 0 hm0).c0
        have e7 : updV c10 16 (.int .i64 1) 7 = .slice (some ⟨LB, 0, none⟩) 1 1 := (updV_other _ _ (by omega)).trans ((ag10 7 (by omega) (by omega) (by omega)).trans a79)
        refine ⟨ρ, E, GR, GC, RL, cr, updV c10 16 (.int .i64 1), { rel0 0 with old := 0, cur := 0 }, { rel0 n with rows := 1, data := d, slots := sv, why := wy, old := 1, cur := 1 }, (fun j => if j = slotZ n then 1 else 0), kn, nb, 2, fnF hb rb 2, LB, 1, gl, cgl, rfl, ?_, cI' 6 (by omega) (by omega) (by omega) (by omega) (by omega) (by omega), e7, cI' 8 (by omega) (by omega) (by omega) (by omega) (by omega) (by omega), cI' 9 (by omega) (by omega) (by omega) (by omega) (by omega) (by omega), cI' 10 (by omega) (by omega) (by omega) (by omega) (by omega) (by omega), cI' 11 (by omega) (by omega) (by omega) (by omega) (by omega) (by omega), (World.cell?_of_block (a := ⟨LB, 0, none⟩) (kz LB (World.block_lt_of_cell? _ _ LB13) (by omega) (by omega) (by omega))).trans LB13, ?_, M13.blk (kz nb M13.lt (by omega) (by omega) (by omega)), by rw [ρ2]; rfl, by rw [ρ2, ρ3]; omega, by rw [ρ2, ρ3]; omega⟩
        · subst ρ2
          subst ρ3
          have hρn : ∀ q, ρ.has q → q ≠ ρ.hb ∧ q ≠ ρ.rb ∧ q ≠ FB ∧ q ≠ E ∧ q ≠ GC := fun q hq => by have := ρ8 q hq; omega
          refine ⟨E13.blk (kz E E13.lt (by omega) (by omega) (by omega)), cI' 0 (by omega) (by omega) (by omega) (by omega) (by omega) (by omega), cI' 1 (by omega) (by omega) (by omega) (by omega) (by omega) (by omega), cI' 3 (by omega) (by omega) (by omega) (by omega) (by omega) (by omega), (updV_other _ _ (by omega)).trans ((ag10 5 (by omega) (by omega) (by omega)).trans (a59.trans e5)), cI' 12 (by omega) (by omega) (by omega) (by omega) (by omega) (by omega), cI' 14 (by omega) (by omega) (by omega) (by omega) (by omega) (by omega), updV_same _ _ _, cI' 17 (by omega) (by omega) (by omega) (by omega) (by omega) (by omega), cI' 18 (by omega) (by omega) (by omega) (by omega) (by omega) (by omega), cI' 19 (by omega) (by omega) (by omega) (by omega) (by omega) (by omega), (updV_other _ _ (by omega)).trans (by rw [ρ6]; exact a21), (updV_other _ _ (by omega)).trans (by rw [ρ5]; exact a22), cI' 23 (by omega) (by omega) (by omega) (by omega) (by omega) (by omega), (World.cell?_of_block (a := ⟨RL, 0, none⟩) (kz RL hrel.2.2 (by omega) (by omega) (by omega))).trans rl0, (World.cell?_of_block (a := ⟨RL, 1, none⟩) (kz RL hrel.2.2 (by omega) (by omega) (by omega))).trans rl1, X13.keep (fun q hq => kz q (hX1 q hq) (hρn q hq).1 (hρn q hq).2.1 (hρn q hq).2.2.1), Hh15.blk (kw ρ.hb (by omega)), rfl, rfl, rfl, rfl, rfl, rfl, Hr15.blk (kw ρ.rb (by omega)), ρ4.symm, rfl, rfl, rfl, ?_, ?_, by rw [ρ4]; exact if_pos rfl, ?_, ?_, fun o => (World.frozen?_of_block (a := ⟨GC, o, none⟩) (kz GC hGCl (by omega) (by omega) (by omega))).trans (cf13 o), hkn, by rw [ρ5]; exact hm, by rw [ρ4]; exact hn, by rw [ρ6]; omega, by omega, by omega, by omega, by omega, by omega, hhr, fun q hq => ?_⟩
          · rw [ρ4]
            exact D13.keep (fun q hq hl => have := hdl q hq; kz q hl (by omega) (by omega) (by omega))
          · exact L13.keep (fun q hq hl => have := hvl q hq; kz q hl (by omega) (by omega) (by omega))
          · rw [ρ6]
            exact G13.blk (kz GR hGRl (by omega) (by omega) (by omega))
          · rw [ρ5]
            exact fun k hk => (CN13 k hk).blk (kz GC hGCl (by omega) (by omega) (by omega))
          · rcases hq with z | z | z | z | z
            · have := ρ8 q z; exact ⟨by omega, by omega, by omega, by omega⟩
            · exact ⟨by omega, by omega, by omega, by omega⟩
            · have := hdl q z; exact ⟨by omega, by omega, by omega, by omega⟩
            · have := hvl q z; exact ⟨by omega, by omega, by omega, by omega⟩
            · exact ⟨by omega, by omega, by omega, by omega⟩
        · rw [ρ1]
          exact (World.cell?_of_block (a := ⟨gl, 0, none⟩) (kz gl (World.block_lt_of_cell? _ _ gl13) (by omega) (by omega) (by omega))).trans gl13
  · have he := htA (by omega)
    subst he
    have bA := one_alloc w6 (.cells #[.int .u8 2, .int .i64 1, .int .i64 0] 45)
    have v0 := cell_later bA x0
    have v1 := cell_later bA x1
    have v2 := cell_later bA x2
    have vf : ∀ o, (w6.alloc (.cells #[.int .u8 2, .int .i64 1, .int .i64 0] 45)).frozen? ⟨FB, o, none⟩ = false := fun o => (World.frozen?_of_block (a := ⟨FB, o, none⟩) (bA.block FB (by omega))).trans (xf o)
    have HB := hideIt (And.intro (then_ b06 bA) (And.intro hn32 (show w.heap.size ≤ FB by omega)))
    have hF6 : FB ≠ w6.heap.size := by omega
    have q0 : (w6.alloc (.cells #[.int .u8 2, .int .i64 1, .int .i64 0] 45)).cell? ⟨w6.heap.size, 0, none⟩ = some (.int .u8 2) := new_cell rfl _ _ 0
    have q1 : (w6.alloc (.cells #[.int .u8 2, .int .i64 1, .int .i64 0] 45)).cell? ⟨w6.heap.size, 1, none⟩ = some (.int .i64 1) := new_cell rfl _ _ 1
    have q2 : (w6.alloc (.cells #[.int .u8 2, .int .i64 1, .int .i64 0] 45)).cell? ⟨w6.heap.size, 2, none⟩ = some (.int .i64 0) := new_cell rfl _ _ 2
    clear htA htB W6 IN b05 HE5 HS5 hds k0 k1 kf y0 y1 y2 yf m1 m2 hs1 hc5 hcs kF x0 x1 x2 xf hs6 b06 bA hn32 hNB hOB hFB
    go_upto_region 7 with fail
    generalize hp6 : w6.heap.size = p6 at *
    generalize w6.alloc (.cells #[.int .u8 2, .int .i64 1, .int .i64 0] 45) = w7 at *
    refine wp_region_l (l := 2) (S := (fun w' => w'.cell? ⟨p6, 0, none⟩ = some (.int .u8 2) ∧ w'.cell? ⟨p6, 1, none⟩ = some (.int .i64 1) ∧ w'.cell? ⟨p6, 2, none⟩ = some (.int .i64 0))) (by kernel_rfl) ⟨q0, q1, q2⟩ (fun hHeld => ?_)
    refine AnyL.take2 (i := 0) (oi := { dst := some 47, op := Go.Op.load 45 (Go.Operand.tmp 10), type := 45, pos := _, after := #[{ on := 1, ground := Go.Ground.gcOnly Go.Departure.lateStores }], guard := none }) (v := ?vv43042) (by kernel_rfl) (by kernel_rfl) rfl (by kernel_rfl) (by kernel_rfl) (by kernel_rfl) (fun _ _ _ h => h) (Or.inl ⟨by rfl, ?hy43042⟩) (by assumption) ?tk43042
    case hy43042 => (intro w hSw; (try dsimp only at hSw); go_simp; (try with_reducible rfl))
    try simp only [Act.put, List.setIfInBounds_toArray, List.set_cons_zero, List.set_cons_succ]
    refine AnyL.take2 (i := 1) (oi := { dst := some 6, op := Go.Op.assign (Go.Operand.const (Go.Value.pointer none)), type := 43, pos := _, after := #[{ on := 0, ground := Go.Ground.textOnly Go.Departure.lateStores }], guard := none }) (v := ?vv43043) (by kernel_rfl) (by kernel_rfl) rfl (by kernel_rfl) (by kernel_rfl) (by kernel_rfl) (fun _ _ _ h => h) (Or.inl ⟨by rfl, ?hy43043⟩) (by assumption) ?tk43043
    case hy43043 => (intro w hSw; (try dsimp only at hSw); go_simp; (try with_reducible rfl))
    try simp only [Act.put, List.setIfInBounds_toArray, List.set_cons_zero, List.set_cons_succ]
    refine AnyL.last (o := { dst := none, op := Go.Op.store 45 (Go.Operand.tmp 7) (Go.Operand.tmp 47), type := 0, pos := _, after := #[{ on := 0, ground := Go.Ground.data }, { on := 1, ground := Go.Ground.chain }, { on := 0, ground := Go.Ground.phase }, { on := 1, ground := Go.Ground.phase }], guard := none }) (by kernel_rfl) rfl (by kernel_rfl) (fun K' hK' => ?_)
    go_simp
    clear hHeld
    refine hK'.out _ _ ?_
    clear hK' K'
    try simp only [Act.put, List.setIfInBounds_toArray, List.set_cons_zero, List.set_cons_succ]
    go_wp2
    refine bodyPost_ret (v := .tuple #[.pointer none, .agg #[.int .u8 2, .int .i64 1, .int .i64 0]]) ?_ rfl ?_
    · rw [results_tmp_cell rfl]
      go_simp
    · obtain ⟨b06, hn32, hFw⟩ := HB.out
      exact ⟨fun _ => ⟨1, 0, rfl⟩, fun h => absurd h hn32, fun h => absurd h hn32, fun h => absurd h hn32, below_dr (below_cell (below_cell (below_cell b06 hFw _) hFw _) hFw _)⟩
end Go.Proofs.Qxb6500880a
