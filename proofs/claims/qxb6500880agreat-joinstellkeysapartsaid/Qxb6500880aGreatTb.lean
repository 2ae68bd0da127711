import Derived.Deep.CutBlock
import Derived.OwnWalk
import Derived.Maps.AppendAt
import Derived.Maps.OwnSet
import Derived.Maps.OwnOps
import Derived.Laws.ResultCell
import Derived.Test.Qxb6500880aGreatTc
set_option linter.unusedVariables false
set_option linter.unusedSimpArgs false
namespace Go.Proofs.Qxb6500880aGreat
open Go.RowKit

set_option maxRecDepth 20000 in
set_option maxHeartbeats 8000000 in
theorem new_any {w : World} {gp gu gd np nt fs sn cF gh gb : Nat} {fv : Nat → Nat → Nat} {av : Nat → Value} (IN : NewIn w gp gu gd np nt fs sn (.slice (some ⟨gh, 0, none⟩) 3 3) (.slice (some ⟨gb, 0, none⟩) 2 2) fv av) :
    Calls Tryz.prog 8 #[.agg #[.slice (some ⟨gp, 0, none⟩) 3 3, .slice (some ⟨gu, 0, none⟩) 1 1, .int .i64 1], .slice (some ⟨gd, 0, none⟩) (64 + np + nt) cF, .agg #[.int .i64 4096, .int .u8 1, .int .u64 0, .bool false]] w fun e w' => ∃ D c X LB cl gl cgl SB mi nb vals, e = .returned (.tuple #[.pointer (some ⟨RD.E D, 0, none⟩), .agg #[.int .u8 0, .int .i64 0, .int .i64 0]]) ∧ NewOk w w' np nt fs sn fv D c X LB cl gl cgl SB mi nb vals := by
  obtain ⟨i6, hi6, hz0, hz1, hz2⟩ := info_parts info79
  obtain ⟨i92, hi92, hw0, hw1, hw2⟩ := info_parts info92
  have b23 := then_ (one_alloc (w.alloc (.cells #[.slice (some ⟨gp, 0, none⟩) 3 3, .slice (some ⟨gu, 0, none⟩) 1 1, .int .i64 1] 57)) (.cells #[.int .i64 4096, .int .u8 1, .int .u64 0, .bool false] 66)) (one_alloc ((w.alloc (.cells #[.slice (some ⟨gp, 0, none⟩) 3 3, .slice (some ⟨gu, 0, none⟩) 1 1, .int .i64 1] 57)).alloc (.cells #[.int .i64 4096, .int .u8 1, .int .u64 0, .bool false] 66)) (.cells #[.int .u8 0, .int .i64 0, .int .i64 0] 61))
  have b1 := then_ (one_alloc w (.cells #[.slice (some ⟨gp, 0, none⟩) 3 3, .slice (some ⟨gu, 0, none⟩) 1 1, .int .i64 1] 57)) b23
  have hs1 : (((w.alloc (.cells #[.slice (some ⟨gp, 0, none⟩) 3 3, .slice (some ⟨gu, 0, none⟩) 1 1, .int .i64 1] 57)).alloc (.cells #[.int .i64 4096, .int .u8 1, .int .u64 0, .bool false] 66)).alloc (.cells #[.int .u8 0, .int .i64 0, .int .i64 0] 61)).heap.size = w.heap.size + 3 := by simp
  have n0 := cell_later b23 (show (w.alloc (.cells #[.slice (some ⟨gp, 0, none⟩) 3 3, .slice (some ⟨gu, 0, none⟩) 1 1, .int .i64 1] 57)).cell? ⟨w.heap.size, 0, none⟩ = some (.slice (some ⟨gp, 0, none⟩) 3 3) from new_cell (by simp) _ _ 0)
  have n1 := cell_later b23 (show (w.alloc (.cells #[.slice (some ⟨gp, 0, none⟩) 3 3, .slice (some ⟨gu, 0, none⟩) 1 1, .int .i64 1] 57)).cell? ⟨w.heap.size, 1, none⟩ = some (.slice (some ⟨gu, 0, none⟩) 1 1) from new_cell (by simp) _ _ 1)
  have n2 := cell_later b23 (show (w.alloc (.cells #[.slice (some ⟨gp, 0, none⟩) 3 3, .slice (some ⟨gu, 0, none⟩) 1 1, .int .i64 1] 57)).cell? ⟨w.heap.size, 2, none⟩ = some (.int .i64 1) from new_cell (by simp) _ _ 2)
  have o0 := cell_later (one_alloc ((w.alloc (.cells #[.slice (some ⟨gp, 0, none⟩) 3 3, .slice (some ⟨gu, 0, none⟩) 1 1, .int .i64 1] 57)).alloc (.cells #[.int .i64 4096, .int .u8 1, .int .u64 0, .bool false] 66)) (.cells #[.int .u8 0, .int .i64 0, .int .i64 0] 61)) (show ((w.alloc (.cells #[.slice (some ⟨gp, 0, none⟩) 3 3, .slice (some ⟨gu, 0, none⟩) 1 1, .int .i64 1] 57)).alloc (.cells #[.int .i64 4096, .int .u8 1, .int .u64 0, .bool false] 66)).cell? ⟨w.heap.size + 1, 0, none⟩ = some (.int .i64 4096) from new_cell (by simp) _ _ 0)
  have o1 := cell_later (one_alloc ((w.alloc (.cells #[.slice (some ⟨gp, 0, none⟩) 3 3, .slice (some ⟨gu, 0, none⟩) 1 1, .int .i64 1] 57)).alloc (.cells #[.int .i64 4096, .int .u8 1, .int .u64 0, .bool false] 66)) (.cells #[.int .u8 0, .int .i64 0, .int .i64 0] 61)) (show ((w.alloc (.cells #[.slice (some ⟨gp, 0, none⟩) 3 3, .slice (some ⟨gu, 0, none⟩) 1 1, .int .i64 1] 57)).alloc (.cells #[.int .i64 4096, .int .u8 1, .int .u64 0, .bool false] 66)).cell? ⟨w.heap.size + 1, 1, none⟩ = some (.int .u8 1) from new_cell (by simp) _ _ 1)
  have o2 := cell_later (one_alloc ((w.alloc (.cells #[.slice (some ⟨gp, 0, none⟩) 3 3, .slice (some ⟨gu, 0, none⟩) 1 1, .int .i64 1] 57)).alloc (.cells #[.int .i64 4096, .int .u8 1, .int .u64 0, .bool false] 66)) (.cells #[.int .u8 0, .int .i64 0, .int .i64 0] 61)) (show ((w.alloc (.cells #[.slice (some ⟨gp, 0, none⟩) 3 3, .slice (some ⟨gu, 0, none⟩) 1 1, .int .i64 1] 57)).alloc (.cells #[.int .i64 4096, .int .u8 1, .int .u64 0, .bool false] 66)).cell? ⟨w.heap.size + 1, 2, none⟩ = some (.int .u64 0) from new_cell (by simp) _ _ 2)
  have o3 := cell_later (one_alloc ((w.alloc (.cells #[.slice (some ⟨gp, 0, none⟩) 3 3, .slice (some ⟨gu, 0, none⟩) 1 1, .int .i64 1] 57)).alloc (.cells #[.int .i64 4096, .int .u8 1, .int .u64 0, .bool false] 66)) (.cells #[.int .u8 0, .int .i64 0, .int .i64 0] 61)) (show ((w.alloc (.cells #[.slice (some ⟨gp, 0, none⟩) 3 3, .slice (some ⟨gu, 0, none⟩) 1 1, .int .i64 1] 57)).alloc (.cells #[.int .i64 4096, .int .u8 1, .int .u64 0, .bool false] 66)).cell? ⟨w.heap.size + 1, 3, none⟩ = some (.bool false) from new_cell (by simp) _ _ 3)
  have z0 := (show (((w.alloc (.cells #[.slice (some ⟨gp, 0, none⟩) 3 3, .slice (some ⟨gu, 0, none⟩) 1 1, .int .i64 1] 57)).alloc (.cells #[.int .i64 4096, .int .u8 1, .int .u64 0, .bool false] 66)).alloc (.cells #[.int .u8 0, .int .i64 0, .int .i64 0] 61)).cell? ⟨w.heap.size + 2, 0, none⟩ = some (.int .u8 0) from new_cell (by simp) _ _ 0)
  have z1 := (show (((w.alloc (.cells #[.slice (some ⟨gp, 0, none⟩) 3 3, .slice (some ⟨gu, 0, none⟩) 1 1, .int .i64 1] 57)).alloc (.cells #[.int .i64 4096, .int .u8 1, .int .u64 0, .bool false] 66)).alloc (.cells #[.int .u8 0, .int .i64 0, .int .i64 0] 61)).cell? ⟨w.heap.size + 2, 1, none⟩ = some (.int .i64 0) from new_cell (by simp) _ _ 1)
  have z2 := (show (((w.alloc (.cells #[.slice (some ⟨gp, 0, none⟩) 3 3, .slice (some ⟨gu, 0, none⟩) 1 1, .int .i64 1] 57)).alloc (.cells #[.int .i64 4096, .int .u8 1, .int .u64 0, .bool false] 66)).alloc (.cells #[.int .u8 0, .int .i64 0, .int .i64 0] 61)).cell? ⟨w.heap.size + 2, 2, none⟩ = some (.int .i64 0) from new_cell (by simp) _ _ 2)
  have zf : ∀ o, ((((w.alloc (.cells #[.slice (some ⟨gp, 0, none⟩) 3 3, .slice (some ⟨gu, 0, none⟩) 1 1, .int .i64 1] 57)).alloc (.cells #[.int .i64 4096, .int .u8 1, .int .u64 0, .bool false] 66)).alloc (.cells #[.int .u8 0, .int .i64 0, .int .i64 0] 61))).frozen? ⟨w.heap.size + 2, o, none⟩ = false := fun o => new_frz (by simp) _ _ _
  have HQ := hideIt (And.intro IN (And.intro b1 (And.intro hs1 (And.intro n0 (And.intro n1 (And.intro n2 (And.intro z0 (And.intro z1 (And.intro z2 zf)))))))))
  clear IN b1 b23 n0 n1 n2 z0 z1 z2 zf hs1
  go_enter Tryz.func8, Tryz.ntmps8
  go_upto_region 3 with fail
  generalize (((w.alloc (.cells #[.slice (some ⟨gp, 0, none⟩) 3 3, .slice (some ⟨gu, 0, none⟩) 1 1, .int .i64 1] 57)).alloc (.cells #[.int .i64 4096, .int .u8 1, .int .u64 0, .bool false] 66)).alloc (.cells #[.int .u8 0, .int .i64 0, .int .i64 0] 61)) = w1 at *
  obtain ⟨NB, hNB⟩ : ∃ NB, w.heap.size = NB := ⟨_, rfl⟩
  obtain ⟨OB, hOB⟩ : ∃ OB, NB + 1 = OB := ⟨_, rfl⟩
  obtain ⟨FB, hFB⟩ : ∃ FB, OB + 1 = FB := ⟨_, rfl⟩
  rw [hNB] at o0 o1 o2 o3
  rw [hOB] at o0 o1 o2 o3
  rw [hNB, hOB, hFB]
  have HNB := hideIt (And.intro hNB (And.intro hOB hFB))
  clear hNB hOB hFB
  go_cut [8] (fun v8 wc => ∃ E SB mi nb, v8 = .pointer (some ⟨E, 0, none⟩) ∧ Hid (EngAt wc E (cI SB nb) ∧ SymsAt wc SB mi (.slice none 0 0) 0 ∧ MapN wc nb 0 (fun _ => none) ∧ (w1.heap.size ≤ E ∧ w1.heap.size ≤ SB ∧ w1.heap.size ≤ mi ∧ w1.heap.size ≤ nb ∧ E ≠ SB ∧ E ≠ mi ∧ E ≠ nb ∧ SB ≠ mi ∧ SB ≠ nb ∧ mi ≠ nb) ∧ Below w1.heap.size w1 wc))
  case first =>
    have hmm := @run_makeMap Tryz.prog
    refine wp_region_held_drew (S := (fun w' => w'.cell? ⟨OB, 0, none⟩ = some (.int .i64 4096) ∧ w'.cell? ⟨OB, 1, none⟩ = some (.int .u8 1) ∧ w'.cell? ⟨OB, 2, none⟩ = some (.int .u64 0) ∧ w'.cell? ⟨OB, 3, none⟩ = some (.bool false))) (by kernel_rfl) ⟨o0, o1, o2, o3⟩ (fun hHeld => ?_)
    refine wpAnyH_take (i := 0) (oi := { dst := some 33, op := Go.Op.load 66 (Go.Operand.tmp 5), type := 66, pos := _, after := #[], guard := none }) (v := ?vv47038) rfl (by kernel_rfl) (by kernel_rfl) (by kernel_rfl) (fun _ _ _ h => h) (Or.inl ⟨by rfl, ?hy47038⟩) (by assumption) ?tk47038
    case hy47038 => (intro w hSw; (try dsimp only at hSw); go_simp; (try with_reducible rfl))
    try simp only [Act.put, List.setIfInBounds_toArray, List.set_cons_zero, List.set_cons_succ]
    refine wpAnyH_ready (rs := [1, 2]) (by kernel_rfl) (by simp) ?_
    refine AllReadyH.cons (o := { dst := some 34, op := Go.Op.call { callee := Go.Callee.value (Go.Operand.func 11), args := #[], argTypes := #[] }, type := 73, pos := _, after := #[], guard := none }) rfl (fun K' hK' => ?_) (AllReadyH.cons (o := { dst := some 35, op := Go.Op.makeMap 75 none, type := 75, pos := _, after := #[], guard := none }) rfl (fun K' hK' => ?_) AllReadyH.nil)
    · go_simp
      go_at_call 11
      refine (newSymbols_any _).mono ?_
      rintro e w5 ⟨SB, rfl, HS, hSB, b5⟩
      have b5' : Below w1.heap.size w1 w5 := ⟨b5.os, b5.tape, b5.output, b5.size, b5.block⟩
      have HX5 := hideIt (And.intro HS (And.intro hSB b5'))
      have p0 := cell_later b5' o0
      have p1 := cell_later b5' o1
      have p2 := cell_later b5' o2
      have p3 := cell_later b5' o3
      clear HS hSB b5 b5'
      clear hHeld
      refine hK'.out _ _ ⟨p0, p1, p2, p3⟩ (fun hHeld => ?_)
      clear hK' K'
      try simp only [Act.put, List.setIfInBounds_toArray, List.set_cons_zero, List.set_cons_succ]
      refine wpAnyH_ready (rs := [2]) (by kernel_rfl) (by simp) ?_
      refine AllReadyH.cons (o := { dst := some 35, op := Go.Op.makeMap 75 none, type := 75, pos := _, after := #[], guard := none }) rfl (fun K' hK' => ?_) AllReadyH.nil
      go_simp
      have q0 := cell_later (one_alloc w5 (.map #[] 0)) p0
      have q1 := cell_later (one_alloc w5 (.map #[] 0)) p1
      have q2 := cell_later (one_alloc w5 (.map #[] 0)) p2
      have q3 := cell_later (one_alloc w5 (.map #[] 0)) p3
      clear hHeld
      refine hK'.out _ _ ⟨q0, q1, q2, q3⟩ (fun hHeld => ?_)
      clear hK' K'
      try simp only [Act.put, List.setIfInBounds_toArray, List.set_cons_zero, List.set_cons_succ]
      refine wpAnyH_take (i := 3) (oi := { dst := some 36, op := Go.Op.build 86 #[(0, Go.Operand.tmp 33), (1, Go.Operand.tmp 34), (3, Go.Operand.tmp 35)], type := 86, pos := _, after := #[{ on := 0, ground := Go.Ground.data }, { on := 1, ground := Go.Ground.data }, { on := 2, ground := Go.Ground.data }], guard := none }) (v := ?vv47039) rfl (by kernel_rfl) (by kernel_rfl) (by kernel_rfl) (fun _ _ _ h => h) (Or.inl ⟨by rfl, ?hy47039⟩) (by assumption) ?tk47039
      case hy47039 => (intro w hSw; (try dsimp only at hSw); go_simp; (try with_reducible rfl))
      try simp only [Act.put, List.setIfInBounds_toArray, List.set_cons_zero, List.set_cons_succ]
      refine wpAnyH_ready (rs := [4]) (by kernel_rfl) (by simp) ?_
      refine AllReadyH.cons (o := { dst := some 37, op := Go.Op.box 86 (Go.Operand.tmp 36), type := 58, pos := _, after := #[{ on := 3, ground := Go.Ground.data }], guard := none }) rfl (fun K' hK' => ?_) AllReadyH.nil
      go_simp
      clear hHeld
      refine hK'.out _ _ ⟨cell_later (one_alloc _ _) q0, cell_later (one_alloc _ _) q1, cell_later (one_alloc _ _) q2, cell_later (one_alloc _ _) q3⟩ (fun hHeld => ?_)
      clear hK' K'
      try simp only [Act.put, List.setIfInBounds_toArray, List.set_cons_zero, List.set_cons_succ]
      refine wpAnyH_take (i := 5) (oi := { dst := some 8, op := Go.Op.assign (Go.Operand.tmp 37), type := 58, pos := _, after := #[{ on := 4, ground := Go.Ground.data }, { on := 1, ground := Go.Ground.chain }, { on := 0, ground := Go.Ground.phase }, { on := 1, ground := Go.Ground.phase }, { on := 2, ground := Go.Ground.phase }, { on := 3, ground := Go.Ground.phase }, { on := 4, ground := Go.Ground.phase }], guard := none }) (v := ?vv47040) rfl (by kernel_rfl) (by kernel_rfl) (by kernel_rfl) (fun _ _ _ h => h) (Or.inl ⟨by rfl, ?hy47040⟩) (by assumption) ?tk47040
      case hy47040 => (intro w hSw; (try dsimp only at hSw); go_simp; (try with_reducible rfl))
      try simp only [Act.put, List.setIfInBounds_toArray, List.set_cons_zero, List.set_cons_succ]
      refine wpAnyH_done (by kernel_rfl) ?_ _
      go_wp2
      go_meet
      case rel =>
        obtain ⟨HS, hSB, b5⟩ := HX5.out
        have bM := one_alloc w5 (.map #[] 0)
        have bE := one_alloc (w5.alloc (.map #[] 0)) (.cells #[.int .i64 4096, .int .u8 1, .int .u64 0, .bool false, .pointer (some ⟨SB, 0, none⟩), .slice none 0 0, .map (some w5.heap.size), .slice none 0 0, .int .i64 0, .int .u8 0, .int .i64 0, .int .i64 0, .slice none 0 0, .slice none 0 0, .slice none 0 0, .int .i64 0, .int .i64 0, .int .i64 0, .int .i64 0, .int .i64 0, .int .i64 0, .slice none 0 0, .slice none 0 0, .slice none 0 0] 86)
        have hs5 := b5.size
        have hSBl := HS.lt
        have hsM : (w5.alloc (.map #[] 0)).heap.size = w5.heap.size + 1 := by simp
        have hsE : ((w5.alloc (.map #[] 0)).alloc (.cells #[.int .i64 4096, .int .u8 1, .int .u64 0, .bool false, .pointer (some ⟨SB, 0, none⟩), .slice none 0 0, .map (some w5.heap.size), .slice none 0 0, .int .i64 0, .int .u8 0, .int .i64 0, .int .i64 0, .slice none 0 0, .slice none 0 0, .slice none 0 0, .int .i64 0, .int .i64 0, .int .i64 0, .int .i64 0, .int .i64 0, .int .i64 0, .slice none 0 0, .slice none 0 0, .slice none 0 0] 86)).heap.size = w5.heap.size + 2 := by simp
        refine ⟨w5.heap.size + 1, SB, w1.heap.size, w5.heap.size, rfl, hideIt ⟨?_, (HS.below bM).below bE, ((MapN_new w5).below bE), ?_, then_ (then_ b5 bM) bE⟩⟩
        · refine ⟨fun i hi => ?_, fun o => new_frz (by simp) _ _ _⟩
          rw [new_cell (by simp)]
          rcases (by omega : i = 0 ∨ i = 1 ∨ i = 2 ∨ i = 3 ∨ i = 4 ∨ i = 5 ∨ i = 6 ∨ i = 7 ∨ i = 8 ∨ i = 9 ∨ i = 10 ∨ i = 11 ∨ i = 12 ∨ i = 13 ∨ i = 14 ∨ i = 15 ∨ i = 16 ∨ i = 17 ∨ i = 18 ∨ i = 19 ∨ i = 20 ∨ i = 21 ∨ i = 22 ∨ i = 23) with h | h | h | h | h | h | h | h | h | h | h | h | h | h | h | h | h | h | h | h | h | h | h | h <;> (subst h; rfl)
        · have hSB' : w1.heap.size < SB := hSB
          omega
    · go_simp
      have p0 := cell_later (one_alloc w1 (.map #[] 0)) o0
      have p1 := cell_later (one_alloc w1 (.map #[] 0)) o1
      have p2 := cell_later (one_alloc w1 (.map #[] 0)) o2
      have p3 := cell_later (one_alloc w1 (.map #[] 0)) o3
      clear hHeld
      refine hK'.out _ _ ⟨p0, p1, p2, p3⟩ (fun hHeld => ?_)
      clear hK' K'
      try simp only [Act.put, List.setIfInBounds_toArray, List.set_cons_zero, List.set_cons_succ]
      refine wpAnyH_ready (rs := [1]) (by kernel_rfl) (by simp) ?_
      refine AllReadyH.cons (o := { dst := some 34, op := Go.Op.call { callee := Go.Callee.value (Go.Operand.func 11), args := #[], argTypes := #[] }, type := 73, pos := _, after := #[], guard := none }) rfl (fun K' hK' => ?_) AllReadyH.nil
      go_simp
      go_at_call 11
      refine (newSymbols_any _).mono ?_
      rintro e w5 ⟨SB, rfl, HS, hSB, b5⟩
      have b5' : Below (w1.alloc (.map #[] 0)).heap.size (w1.alloc (.map #[] 0)) w5 := ⟨b5.os, b5.tape, b5.output, b5.size, b5.block⟩
      have HX5 := hideIt (And.intro HS (And.intro hSB b5'))
      have q0 := cell_later b5' p0
      have q1 := cell_later b5' p1
      have q2 := cell_later b5' p2
      have q3 := cell_later b5' p3
      clear HS hSB b5 b5'
      clear hHeld
      refine hK'.out _ _ ⟨q0, q1, q2, q3⟩ (fun hHeld => ?_)
      clear hK' K'
      try simp only [Act.put, List.setIfInBounds_toArray, List.set_cons_zero, List.set_cons_succ]
      refine wpAnyH_take (i := 3) (oi := { dst := some 36, op := Go.Op.build 86 #[(0, Go.Operand.tmp 33), (1, Go.Operand.tmp 34), (3, Go.Operand.tmp 35)], type := 86, pos := _, after := #[{ on := 0, ground := Go.Ground.data }, { on := 1, ground := Go.Ground.data }, { on := 2, ground := Go.Ground.data }], guard := none }) (v := ?vv47041) rfl (by kernel_rfl) (by kernel_rfl) (by kernel_rfl) (fun _ _ _ h => h) (Or.inl ⟨by rfl, ?hy47041⟩) (by assumption) ?tk47041
      case hy47041 => (intro w hSw; (try dsimp only at hSw); go_simp; (try with_reducible rfl))
      try simp only [Act.put, List.setIfInBounds_toArray, List.set_cons_zero, List.set_cons_succ]
      refine wpAnyH_ready (rs := [4]) (by kernel_rfl) (by simp) ?_
      refine AllReadyH.cons (o := { dst := some 37, op := Go.Op.box 86 (Go.Operand.tmp 36), type := 58, pos := _, after := #[{ on := 3, ground := Go.Ground.data }], guard := none }) rfl (fun K' hK' => ?_) AllReadyH.nil
      go_simp
      clear hHeld
      refine hK'.out _ _ ⟨cell_later (one_alloc _ _) q0, cell_later (one_alloc _ _) q1, cell_later (one_alloc _ _) q2, cell_later (one_alloc _ _) q3⟩ (fun hHeld => ?_)
      clear hK' K'
      try simp only [Act.put, List.setIfInBounds_toArray, List.set_cons_zero, List.set_cons_succ]
      refine wpAnyH_take (i := 5) (oi := { dst := some 8, op := Go.Op.assign (Go.Operand.tmp 37), type := 58, pos := _, after := #[{ on := 4, ground := Go.Ground.data }, { on := 1, ground := Go.Ground.chain }, { on := 0, ground := Go.Ground.phase }, { on := 1, ground := Go.Ground.phase }, { on := 2, ground := Go.Ground.phase }, { on := 3, ground := Go.Ground.phase }, { on := 4, ground := Go.Ground.phase }], guard := none }) (v := ?vv47042) rfl (by kernel_rfl) (by kernel_rfl) (by kernel_rfl) (fun _ _ _ h => h) (Or.inl ⟨by rfl, ?hy47042⟩) (by assumption) ?tk47042
      case hy47042 => (intro w hSw; (try dsimp only at hSw); go_simp; (try with_reducible rfl))
      try simp only [Act.put, List.setIfInBounds_toArray, List.set_cons_zero, List.set_cons_succ]
      refine wpAnyH_done (by kernel_rfl) ?_ _
      go_wp2
      go_meet
      case rel =>
        obtain ⟨HS, hSB, b5⟩ := HX5.out
        have bM := one_alloc w1 (.map #[] 0)
        have bE := one_alloc w5 (.cells #[.int .i64 4096, .int .u8 1, .int .u64 0, .bool false, .pointer (some ⟨SB, 0, none⟩), .slice none 0 0, .map (some w1.heap.size), .slice none 0 0, .int .i64 0, .int .u8 0, .int .i64 0, .int .i64 0, .slice none 0 0, .slice none 0 0, .slice none 0 0, .int .i64 0, .int .i64 0, .int .i64 0, .int .i64 0, .int .i64 0, .int .i64 0, .slice none 0 0, .slice none 0 0, .slice none 0 0] 86)
        have hs5 := b5.size
        have hSBl := HS.lt
        have hsM : (w1.alloc (.map #[] 0)).heap.size = w1.heap.size + 1 := by simp
        have hsE : (w5.alloc (.cells #[.int .i64 4096, .int .u8 1, .int .u64 0, .bool false, .pointer (some ⟨SB, 0, none⟩), .slice none 0 0, .map (some w1.heap.size), .slice none 0 0, .int .i64 0, .int .u8 0, .int .i64 0, .int .i64 0, .slice none 0 0, .slice none 0 0, .slice none 0 0, .int .i64 0, .int .i64 0, .int .i64 0, .int .i64 0, .int .i64 0, .int .i64 0, .slice none 0 0, .slice none 0 0, .slice none 0 0] 86)).heap.size = w5.heap.size + 1 := by simp
        have hmi : (w1.alloc (.map #[] 0)).drew.heap.size = w1.heap.size + 1 := hsM
        rw [hmi] at HS hSB
        refine ⟨w5.heap.size, SB, w1.heap.size + 1, w1.heap.size, rfl, hideIt ⟨?_, HS.below bE, ((MapN_new w1).below b5).below bE, ?_, then_ (then_ bM b5) bE⟩⟩
        · refine ⟨fun i hi => ?_, fun o => new_frz rfl _ _ _⟩
          rw [new_cell rfl]
          rcases (by omega : i = 0 ∨ i = 1 ∨ i = 2 ∨ i = 3 ∨ i = 4 ∨ i = 5 ∨ i = 6 ∨ i = 7 ∨ i = 8 ∨ i = 9 ∨ i = 10 ∨ i = 11 ∨ i = 12 ∨ i = 13 ∨ i = 14 ∨ i = 15 ∨ i = 16 ∨ i = 17 ∨ i = 18 ∨ i = 19 ∨ i = 20 ∨ i = 21 ∨ i = 22 ∨ i = 23) with h | h | h | h | h | h | h | h | h | h | h | h | h | h | h | h | h | h | h | h | h | h | h | h <;> (subst h; rfl)
        · omega
  case rest =>
  clear o0 o1 o2 o3
  obtain ⟨E, SB, mi, nb, rfl, HZ⟩ := hcut
  obtain ⟨HE, HS, HN, hds, b1c⟩ := HZ.out
  obtain ⟨IN, b1, hs1, n0, n1, n2, z0, z1, z2, zf⟩ := HQ.out
  obtain ⟨hNB, hOB, hFB⟩ := HNB.out
  rw [hNB] at n0 n1 n2 z0 z1 z2 zf hs1
  rw [show NB + 2 = FB by omega] at z0 z1 z2 zf
  have bC := one_alloc wc (.cells #[.pointer (some ⟨E, 0, none⟩), .map none] 90)
  have b15 := then_ b1c bC
  have b05 := then_ b1 b15
  have m0 := cell_later b15 n0
  have m1 := cell_later b15 n1
  have m2 := cell_later b15 n2
  have hFl : FB < w1.heap.size := by omega
  have y0 := cell_later b15 z0
  have y1 := cell_later b15 z1
  have y2 := cell_later b15 z2
  have yf : ∀ o, (wc.alloc (.cells #[.pointer (some ⟨E, 0, none⟩), .map none] 90)).frozen? ⟨FB, o, none⟩ = false := fun o => (World.frozen?_of_block (a := ⟨FB, o, none⟩) (b15.block FB hFl)).trans (zf o)
  have hc5 : (wc.alloc (.cells #[.pointer (some ⟨E, 0, none⟩), .map none] 90)).heap.size = wc.heap.size + 1 := by simp
  have hcs := b1c.size
  have k0 : (wc.alloc (.cells #[.pointer (some ⟨E, 0, none⟩), .map none] 90)).cell? ⟨wc.heap.size, 0, none⟩ = some (.pointer (some ⟨E, 0, none⟩)) := new_cell rfl _ _ 0
  have k1 : (wc.alloc (.cells #[.pointer (some ⟨E, 0, none⟩), .map none] 90)).cell? ⟨wc.heap.size, 1, none⟩ = some (.map none) := new_cell rfl _ _ 1
  have kf : ∀ o, (wc.alloc (.cells #[.pointer (some ⟨E, 0, none⟩), .map none] 90)).frozen? ⟨wc.heap.size, o, none⟩ = false := fun o => new_frz rfl _ _ _
  have PR : PredsAt (wc.alloc (.cells #[.pointer (some ⟨E, 0, none⟩), .map none] 90)) gp arN := ⟨fun i hi => ⟨cell_later b05 (IN.pr.c i hi).1, cell_later b05 (IN.pr.c i hi).2.1, cell_later b05 (IN.pr.c i hi).2.2⟩⟩
  have hgpl : gp < w.heap.size := World.block_lt_of_cell? _ _ (IN.pr.c 0 (by omega)).1
  have hlt4 : SB < wc.heap.size ∧ mi < wc.heap.size ∧ E < wc.heap.size ∧ nb < wc.heap.size := ⟨HS.lt.1, HS.lt.2, HE.lt, HN.lt⟩
  have htb := table_any (rp := some ⟨gu, 0, none⟩) (rn := 1) (rc := 1) (HE.below bC) rfl rfl (HN.below bC) k0 PR ⟨by omega, by omega, by omega, by omega, by omega⟩ (fun i hi => IN.ok.a1 i (by omega))
  have HY := hideIt (And.intro IN (And.intro b05 (And.intro (HS.below bC) (And.intro k0 (And.intro k1 (And.intro kf (And.intro y0 (And.intro y1 (And.intro y2 (And.intro yf (And.intro m1 m2)))))))))))
  have hbs : w.heap.size = NB ∧ NB < FB ∧ FB < w1.heap.size ∧ w1.heap.size ≤ wc.heap.size ∧ (wc.alloc (.cells #[.pointer (some ⟨E, 0, none⟩), .map none] 90)).heap.size = wc.heap.size + 1 := by omega
  clear HE HS HN b1c IN b1 hs1 n0 n1 n2 z0 z1 z2 zf bC b15 b05 k0 k1 kf PR y0 y1 y2 yf hNB hOB hFB hc5 hcs hFl HZ HQ
  go_upto_region 5 with fail
  generalize hCB : wc.heap.size = CB at *
  generalize (wc.alloc (.cells #[.pointer (some ⟨E, 0, none⟩), .map none] 90)) = w5 at *
  go_wp2_with fail
  refine htb.mono ?_
  rintro e w6 ⟨rfl, ⟨rb, c6, T6, hc6⟩, W6⟩
  clear m0 m1 m2
  obtain ⟨IN, b05, HS5, k0, k1, kf, y0, y1, y2, yf, m1, m2⟩ := HY.out
  have hs6 := W6.size
  have bF := one_alloc w6 (.cells #[.int .u8 0, .int .i64 0, .int .i64 0] 61)
  have k7 : ∀ q, q < w5.heap.size → q ≠ E → q ≠ nb → (w6.alloc (.cells #[.int .u8 0, .int .i64 0, .int .i64 0] 61)).heap[q]? = w5.heap[q]? := fun q h1 h2 h3 => (bF.block q (by omega)).trans (W6.block q h1 (fun e => by rcases e with e | e; exact h2 e; exact h3 e))
  have eF := k7 FB (by omega) (by omega) (by omega)
  have eC := k7 CB (by omega) (by omega) (by omega)
  have e2 := (World.cell?_of_block (a := ⟨NB, 2, none⟩) (k7 NB (by omega) (by omega) (by omega))).trans m2
  have e1 := (World.cell?_of_block (a := ⟨NB, 1, none⟩) (k7 NB (by omega) (by omega) (by omega))).trans m1
  have hs7 : (w6.alloc (.cells #[.int .u8 0, .int .i64 0, .int .i64 0] 61)).heap.size = w6.heap.size + 1 := by simp
  have hw56 : w5.heap.size + 2 ≤ w6.heap.size := by
    have := (T6.r 0 (by omega)).1.lt
    have := (T6.r 0 (by omega)).2.1
    have := (T6.r 1 (by omega)).1.lt
    have := (T6.r 1 (by omega)).2.1
    omega
  have N7 : NS (w6.alloc (.cells #[.int .u8 0, .int .i64 0, .int .i64 0] 61)) E nb CB FB SB mi (w5.heap.size + 2) (w6.alloc (.cells #[.int .u8 0, .int .i64 0, .int .i64 0] 61)).heap.size rb c6 := ⟨T6.below bF, HS5.keep (fun q hq hl => k7 q hl (by
      rcases hq with z | z | z
      · omega
      · omega
      · cases z) (by
      rcases hq with z | z | z
      · omega
      · omega
      · cases z)), (World.cell?_of_block (a := ⟨CB, 0, none⟩) eC).trans k0, (World.cell?_of_block (a := ⟨FB, 0, none⟩) eF).trans y0, (World.cell?_of_block (a := ⟨FB, 1, none⟩) eF).trans y1, (World.cell?_of_block (a := ⟨FB, 2, none⟩) eF).trans y2, fun o => (World.frozen?_of_block (a := ⟨FB, o, none⟩) eF).trans (yf o), by omega, by omega, by omega, fun j hj => by have := (T6.r j hj).1.lt; omega, fun q hq => by have := (T6.own.lt q hq).2; omega⟩
  have b07 : Below w.heap.size w (w6.alloc (.cells #[.int .u8 0, .int .i64 0, .int .i64 0] 61)) := ⟨bF.os.trans (W6.os.trans b05.os), bF.tape.trans (W6.tape.trans b05.tape), bF.output.trans (W6.output.trans b05.output), by have := b05.size; omega, fun q hq => (k7 q (by have := b05.size; omega) (by omega) (by omega)).trans (b05.block q hq)⟩
  have k1 := (World.cell?_of_block (a := ⟨CB, 1, none⟩) eC).trans k1
  have kf : ∀ o, (w6.alloc (.cells #[.int .u8 0, .int .i64 0, .int .i64 0] 61)).frozen? ⟨CB, o, none⟩ = false := fun o => (World.frozen?_of_block (a := ⟨CB, o, none⟩) eC).trans (kf o)
  have q0 : (w6.alloc (.cells #[.int .u8 0, .int .i64 0, .int .i64 0] 61)).cell? ⟨w6.heap.size, 0, none⟩ = some (.int .u8 0) := new_cell rfl _ _ 0
  have e7 := N7.T.e.get (hc6 7 (by omega)) (by omega)
  have ef7 := N7.T.e.fz
  have hs7' : w6.heap.size < (w6.alloc (.cells #[.int .u8 0, .int .i64 0, .int .i64 0] 61)).heap.size := by omega
  clear hs7
  have H7 := hideIt (And.intro N7 (And.intro k1 (And.intro kf (And.intro b07 (And.intro IN hc6)))))
  clear T6 HS5 k0 k1 kf y0 y1 y2 yf m1 m2 bF k7 eF eC N7 b07 b05 hc6 htb W6 HY IN
  go_upto_region 6 with fail
  generalize (w6.alloc (.cells #[.int .u8 0, .int .i64 0, .int .i64 0] 61)) = w7 at *
  go_wp2_with (first | (at_make; refine wpList_make_full _ rfl _ _ 77 rfl w7.heap.size 79 i6 _ 1 Tryz.underlying77 hi6 hz0 hz1 .i64 .i64 1 1 1 rfl rfl rfl rfl (by rw [hz2]; omega) (by unfold maxLen; omega) (Nat.le_refl _) ?_) | go_in)
  intro w8 own8 grow8
  have b8 : Below w7.heap.size w7 w8 := ⟨grow8.os, grow8.tape, grow8.output, grow8.size, fun k hk => grow8.block k hk (by simp)⟩
  have hg8 : w7.heap.size < w8.heap.size := (own8.lt w7.heap.size rfl).2
  have lb8 : w8.cell? ⟨w7.heap.size, 0, none⟩ = some (.slice none 0 0) := by
    have e := own8.cellAt 0 (by omega)
    rw [made_one, List.getElem?_replicate, if_pos (by omega)] at e
    exact e
  have lf8 : ∀ o, w8.frozen? ⟨w7.heap.size, o, none⟩ = false := fun o => own8.frozenAt o
  have f7 := cell_later b8 e7
  have ff7 : ∀ o, w8.frozen? ⟨E, o, none⟩ = false := fun o => (World.frozen?_of_block (a := ⟨E, o, none⟩) (b8.block E (World.block_lt_of_cell? _ _ e7))).trans (ef7 o)
  have f1 := cell_later b8 e1
  have H8 := hideIt b8
  clear own8 grow8 b8 e7 ef7 e1 e2 q0
  go_upto_region 9 with fail
  obtain ⟨N7, k1, kf, b07, IN, hc6⟩ := H7.out
  have b8 := H8.out
  have N9 := (N7.below b8).put (k := 7) (by omega) (by omega) (by omega) (.slice (some ⟨w7.heap.size, 0, none⟩) 1 1)
  have hlt7 := N7.lt
  have hne7 := N7.ne
  have hLE : w7.heap.size ≠ E := by omega
  have L9 : (w8.setCell ⟨E, 7, none⟩ (.slice (some ⟨w7.heap.size, 0, none⟩) 1 1)).cell? ⟨w7.heap.size, 0, none⟩ = some (.slice none 0 0) := (World.cell?_of_block (a := ⟨w7.heap.size, 0, none⟩) (far_set hLE)).trans lb8
  have Lf9 : ∀ o, (w8.setCell ⟨E, 7, none⟩ (.slice (some ⟨w7.heap.size, 0, none⟩) 1 1)).frozen? ⟨w7.heap.size, o, none⟩ = false := fun o => (World.frozen?_setCell _ _ _ _).trans (lf8 o)
  have eC : (w8.setCell ⟨E, 7, none⟩ (.slice (some ⟨w7.heap.size, 0, none⟩) 1 1)).heap[CB]? = w7.heap[CB]? := (far_set hne7.1).trans (b8.block CB (by omega))
  have k1 := (World.cell?_of_block (a := ⟨CB, 1, none⟩) eC).trans k1
  have kf : ∀ o, (w8.setCell ⟨E, 7, none⟩ (.slice (some ⟨w7.heap.size, 0, none⟩) 1 1)).frozen? ⟨CB, o, none⟩ = false := fun o => (World.frozen?_of_block (a := ⟨CB, o, none⟩) eC).trans (kf o)
  have hNE : NB ≠ E := by omega
  have n19 : (w8.setCell ⟨E, 7, none⟩ (.slice (some ⟨w7.heap.size, 0, none⟩) 1 1)).cell? ⟨NB, 1, none⟩ = some (.slice (some ⟨gu, 0, none⟩) 1 1) := (World.cell?_of_block (a := ⟨NB, 1, none⟩) (far_set hNE)).trans f1
  have b09 : Below w.heap.size w (w8.setCell ⟨E, 7, none⟩ (.slice (some ⟨w7.heap.size, 0, none⟩) 1 1)) := below_cell (b07.trans (b8.mono (by omega))) (by omega) _
  have hs9 : (w8.setCell ⟨E, 7, none⟩ (.slice (some ⟨w7.heap.size, 0, none⟩) 1 1)).heap.size = w8.heap.size := by simp
  have ag9 : ∀ k, k ≠ 5 → k ≠ 7 → updV c6 7 (.slice (some ⟨w7.heap.size, 0, none⟩) 1 1) k = cI SB nb k := fun k h1 h2 => (updV_other _ _ h2).trans (hc6 k h1)
  have a79 : updV c6 7 (.slice (some ⟨w7.heap.size, 0, none⟩) 1 1) 7 = .slice (some ⟨w7.heap.size, 0, none⟩) 1 1 := updV_same _ _ _
  have hsL : w7.heap.size < (w8.setCell ⟨E, 7, none⟩ (.slice (some ⟨w7.heap.size, 0, none⟩) 1 1)).heap.size := by omega
  clear N7 b07 hc6 b8 H7 H8 lb8 lf8 f7 ff7 f1 hs9 eC hg8
  generalize updV c6 7 (.slice (some ⟨w7.heap.size, 0, none⟩) 1 1) = c9 at *
  generalize (w8.setCell ⟨E, 7, none⟩ (.slice (some ⟨w7.heap.size, 0, none⟩) 1 1)) = w9 at *
  generalize hLB : w7.heap.size = LB at *
  have u0 := cell_later b09 IN.u0
  have u1 := cell_later b09 IN.u1
  have u2 := cell_later b09 IN.u2
  have H9 := hideIt (And.intro N9 (And.intro k1 (And.intro kf (And.intro L9 (And.intro Lf9 (And.intro b09 (And.intro ag9 (And.intro a79 IN))))))))
  clear N9 k1 kf L9 Lf9 b09 ag9 a79 IN
  go_wp2_with fail
  go_loopg [57] 1 (fun gg v wr => ∃ i : Nat, i + gg = 1 ∧ v = .int .i64 (i : Int) ∧ (i = 0 → wr = w9) ∧ (i = 1 → Below w.heap.size w wr ∧ ∃ gl cgl GR GC c10 ρ, NR w9 wr E nb CB FB SB mi (w5.heap.size + 2) LB rb c9 gl cgl GR GC fs sn c10 ρ))
  case atStart => exact ⟨0, by omega, rfl, fun _ => rfl, fun h => by omega⟩
  case round =>
  obtain ⟨i, hi, rfl, hI0, hI1⟩ := hrel
  by_cases hin : i < 1
  · have hi0 : i = 0 := by omega
    subst hi0
    have ew := (hI0 rfl).symm
    subst ew
    clear hI0 hI1
    obtain ⟨N9, k1, kf, L9, Lf9, b09, ag9, a79, IN⟩ := H9.out
    have bU := one_alloc w9 (.cells #[.string (nmS 2), .slice (some ⟨gh, 0, none⟩) 3 3, .slice (some ⟨gb, 0, none⟩) 2 2] 54)
    have b010 := then_ b09 bU
    have NU := N9.below bU
    have hlt9 := N9.lt
    have hne9 := N9.ne
    have hnf9 := N9.nf
    have hrb9 : ∀ j, j < 3 → w5.heap.size + 2 ≤ rb j := fun j hj => (N9.T.r j hj).2.1
    have EV : Env (w9.alloc (.cells #[.string (nmS 2), .slice (some ⟨gh, 0, none⟩) 3 3, .slice (some ⟨gb, 0, none⟩) 2 2] 54)) CB E nb 3 (fnK rb 3) (fun k => rel0 (arN k.val)) := ⟨NU.k0, NU.T.e.get ((ag9 6 (by omega) (by omega)).trans rfl) (by omega), NU.T.m, fun k b hb => by
      unfold fnK at hb
      split at hb
      · rename_i hk
        have e := Option.some.inj hb
        subst e
        have := (NU.T.r k.val hk).1
        rw [kf_val] at this
        exact this
      · cases hb⟩
    have hx := rule_any (w := (w9.alloc (.cells #[.string (nmS 2), .slice (some ⟨gh, 0, none⟩) 3 3, .slice (some ⟨gb, 0, none⟩) 2 2] 54))) (w0 := w) (hb := rb 2) (rb := fun j => rb (keyN j).val) (nn := nnR) (m := 2) (F := FR fs sn) (nh := 3) (Fh := fun t => t) (R := 3) (key := keyN) (kh := 2) EV (fun o => (World.frozen?_of_block (a := ⟨CB, o, none⟩) (bU.block CB (by omega))).trans (kf o)) ⟨_, cell_later bU k1⟩ (uN_ok IN.o) (uN_safe IN.o) (fun j hj => by rcases (by omega : j = 0 ∨ j = 1) with h | h <;> (subst h; rfl)) rfl (fun j hj => by rcases (by omega : j = 0 ∨ j = 1) with h | h <;> (subst h; rfl)) rfl IN.th IN.hq kA_id.1 kA_id.2 IN.bo b010 (by omega) ⟨hne9.1, hne9.2.1, fun k e => by
      unfold fnK at e
      split at e
      · rename_i hk
        have := hrb9 k.val hk
        have := Option.some.inj e
        omega
      · cases e⟩
    have hs10 : (w9.alloc (.cells #[.string (nmS 2), .slice (some ⟨gh, 0, none⟩) 3 3, .slice (some ⟨gb, 0, none⟩) 2 2] 54)).heap.size = w9.heap.size + 1 := by simp
    have H10 := hideIt (And.intro NU (And.intro b010 (And.intro bU (And.intro hs10 hx))))
    have hx' : Calls Tryz.prog 13 #[.pointer (some ⟨CB, 0, none⟩), .int .i64 0, .agg #[.string (nmS 2), .slice (some ⟨gh, 0, none⟩) 3 3, .slice (some ⟨gb, 0, none⟩) 2 2]] (w9.alloc (.cells #[.string (nmS 2), .slice (some ⟨gh, 0, none⟩) 3 3, .slice (some ⟨gb, 0, none⟩) 2 2] 54)) _ := hx
    clear N9 k1 kf L9 Lf9 b09 ag9 a79 IN NU b010 EV hrb9 hs10 bU hx
    go_wp2_with fail
    refine hx'.mono ?_
    rintro e w11 ⟨RB, rfl, HU, hRB, c011, W11⟩
    obtain ⟨NU, b010, bU, hs10, _⟩ := H10.out
    have N11 := NU.wrc W11 c011
    have hs11 := W11.size
    have bA := one_alloc w11 (.cells #[.int .u8 0, .int .i64 0, .int .i64 0] 61)
    have N12 := N11.below bA
    have hs12 : (w11.alloc (.cells #[.int .u8 0, .int .i64 0, .int .i64 0] 61)).heap.size = w11.heap.size + 1 := by simp
    have HU12 := HU.keep (w' := (w11.alloc (.cells #[.int .u8 0, .int .i64 0, .int .i64 0] 61))) bA.size (fun q h1 h2 => bA.block q h2)
    have b012 : Below w.heap.size w (w11.alloc (.cells #[.int .u8 0, .int .i64 0, .int .i64 0] 61)) := ⟨bA.os.trans (W11.os.trans b010.os), bA.tape.trans (W11.tape.trans b010.tape), bA.output.trans (W11.output.trans b010.output), by have := b010.size; omega, fun q hq => (bA.block q (by have := b010.size; omega)).trans ((W11.block q (by have := b010.size; omega) (by omega)).trans (b010.block q hq))⟩
    obtain ⟨N9, k1, kf, L9, Lf9, b09, ag9, a79, IN⟩ := H9.out
    have eL : (w11.alloc (.cells #[.int .u8 0, .int .i64 0, .int .i64 0] 61)).heap[LB]? = w9.heap[LB]? := (bA.block LB (by omega)).trans ((W11.block LB (by omega) (by omega)).trans (bU.block LB (by omega)))
    have L12 := (World.cell?_of_block (a := ⟨LB, 0, none⟩) eL).trans L9
    have Lf12 : ∀ o, (w11.alloc (.cells #[.int .u8 0, .int .i64 0, .int .i64 0] 61)).frozen? ⟨LB, o, none⟩ = false := fun o => (World.frozen?_of_block (a := ⟨LB, o, none⟩) eL).trans (Lf9 o)
    have q0 : (w11.alloc (.cells #[.int .u8 0, .int .i64 0, .int .i64 0] 61)).cell? ⟨w11.heap.size, 0, none⟩ = some (.int .u8 0) := new_cell rfl _ _ 0
    have e13 := N12.T.e.get ((ag9 13 (by omega) (by omega)).trans rfl) (by omega)
    have ef12 := N12.T.e.fz
    have hRBl : RB < w11.heap.size := by
      obtain ⟨ρ, X, h1, _⟩ := HU.told (uN_ok IN.o) (by show 0 < 2; omega)
      have := X.lt (.inl rfl)
      omega
    have H12 := hideIt (And.intro N12 (And.intro HU12 (And.intro b012 (And.intro L12 (And.intro Lf12 hs10)))))
    have hsz : w9.heap.size < RB ∧ w9.heap.size + 1 ≤ w11.heap.size ∧ w11.heap.size < (w11.alloc (.cells #[.int .u8 0, .int .i64 0, .int .i64 0] 61)).heap.size := by omega
    clear N9 k1 kf L9 Lf9 b09 ag9 a79 IN NU b010 bU hs10 N11 W11 bA N12 hs12 HU12 b012 eL L12 Lf12 HU c011 hs11 hRB hx' H10
    go_upto_region 13 with fail
    generalize (w11.alloc (.cells #[.int .u8 0, .int .i64 0, .int .i64 0] 61)) = w12 at *
    go_wp2_with (first | (at_builtin; refine wpList_append_own_at _ rfl (.tmp 77) (.tmp 79) 79 rfl w12.heap.size 92 i92 (.pointer none) 1 8 Tryz.underlying79 hi92 hw0 hw1 hw2 rfl (by decide) (.slice none 0 0) 0 [] rfl (own_nil _ _ _ _) ⟨w12.heap.size, 0, none⟩ 1 1 [.pointer (some ⟨RB, 0, none⟩)] rfl rfl (cell_new1 _ _ _) (by simp [Value.oneCell']) (by unfold maxLen; omega) (by omega) (by simp <;> omega) ?_) | go_in)
    intro v13 w13 own13 hgrow hiff hblk
    have b13 := below_apN hgrow
    obtain ⟨p13, cc13, rfl⟩ := own_shape own13
    obtain ⟨N12, HU12, b012, L12, Lf12, hs10⟩ := H12.out
    have N13 := N12.below b13
    have e13' := cell_later b13 e13
    have ef13 := N13.T.e.fz
    have HB13 := hideIt (And.intro b13 N13)
    clear own13 hgrow hiff hblk b13 N12 HU12 b012 L12 Lf12 hs10 N13 e13 ef12 q0
    go_upto_region 16 with fail
    obtain ⟨N12, HU12, b012, L12, Lf12, hs10⟩ := H12.out
    obtain ⟨b13, N13⟩ := HB13.out
    have N14 := N13.put (k := 13) (by omega) (by omega) (by omega) (.slice p13 (0 + 1) cc13)
    have k14 : ∀ q, q < w12.heap.size → q ≠ E → (w13.setCell ⟨E, 13, none⟩ (.slice p13 (0 + 1) cc13)).heap[q]? = w12.heap[q]? := fun q h1 h2 => (far_set h2).trans (b13.block q h1)
    have hs14 : w12.heap.size ≤ (w13.setCell ⟨E, 13, none⟩ (.slice p13 (0 + 1) cc13)).heap.size := by have := b13.size; simp; omega
    have HU14 : RuSt (w9.heap.size + 1) (w13.setCell ⟨E, 13, none⟩ (.slice p13 (0 + 1) cc13)) RB (uN rb fs sn) := by
      rw [← hs10]
      exact HU12.keep hs14 (fun q h1 h2 => k14 q h2 (by omega))
    have b014 : Below w.heap.size w (w13.setCell ⟨E, 13, none⟩ (.slice p13 (0 + 1) cc13)) := below_cell (b012.trans (b13.mono (by have := b012.size; omega))) (by omega) _
    have eL := k14 LB (by omega) (by omega)
    have L14 := (World.cell?_of_block (a := ⟨LB, 0, none⟩) eL).trans L12
    have Lf14 : ∀ o, (w13.setCell ⟨E, 13, none⟩ (.slice p13 (0 + 1) cc13)).frozen? ⟨LB, o, none⟩ = false := fun o => (World.frozen?_of_block (a := ⟨LB, o, none⟩) eL).trans (Lf12 o)
    have ag14 : ∀ k, k ≠ 13 → updV c9 13 (.slice p13 (0 + 1) cc13) k = c9 k := fun k h => updV_other _ _ h
    clear N12 HU12 b012 L12 Lf12 hs10 k14 HB13 b13 N13 e13' ef13 H12 eL
    generalize updV c9 13 (.slice p13 (0 + 1) cc13) = c14 at *
    generalize (w13.setCell ⟨E, 13, none⟩ (.slice p13 (0 + 1) cc13)) = w14 at *
    obtain ⟨N9, k1, kf, L9, Lf9, b09, ag9, a79, IN⟩ := H9.out
    obtain ⟨ρ, X14, ρ1, ρ2, ρ3⟩ := HU14.told (uN_ok IN.o) (by show 0 < 2; omega)
    have hfd := ruleFold_any (ev := .pointer (some ⟨E, 0, none⟩)) (HU14 w14 (fun q _ _ => rfl)) (uN_ok IN.o) ⟨E, rfl⟩
    have H14 := hideIt (And.intro N14 (And.intro X14 (And.intro b014 (And.intro L14 (And.intro Lf14 ag14)))))
    have HR := hideIt (And.intro ρ1 (And.intro ρ2 ρ3))
    clear N14 HU14 X14 b014 L14 Lf14 ag14 ρ1 ρ2 ρ3 N9 k1 kf L9 Lf9 b09 ag9 a79 IN
    go_wp2_with fail
    refine hfd.mono ?_
    rintro e wd ⟨rfl, b15⟩
    obtain ⟨N14, X14, b014, L14, Lf14, ag14⟩ := H14.out
    obtain ⟨ρ1, ρ2, ρ3⟩ := HR.out
    obtain ⟨N9, k1, kf, L9, Lf9, b09, ag9, a79, IN⟩ := H9.out
    have hs15 := b15.size
    have N15 := N14.below b15
    have X15 := X14.below b15
    have r1 := X15.c1
    rw [ρ1, ρ2] at r1
    change wd.cell? ⟨RB, 1, none⟩ = some (.pointer (some ⟨rb 2, 0, none⟩)) at r1
    have h2 := (N15.T.r 2 (by omega)).1.sr
    have yE7 := N15.T.e.get ((ag14 7 (by omega)).trans a79) (by omega)
    have yL := cell_later b15 L14
    have hLd : LB < wd.heap.size := World.block_lt_of_cell? _ _ yL
    have lfd : ∀ o, wd.frozen? ⟨LB, o, none⟩ = false := fun o => (World.frozen?_of_block (a := ⟨LB, o, none⟩) (b15.block LB (by omega))).trans (Lf14 o)
    have H15 := hideIt (And.intro N15 (And.intro X15 (And.intro (then_ b014 b15) ag14)))
    clear N14 X14 b014 L14 Lf14 ag14 ρ1 ρ2 ρ3 N9 k1 kf L9 Lf9 b09 ag9 a79 IN N15 X15 H14 b15 hfd
    go_upto_region 18 with fail
    refine wp_region_l (l := 16) (S := (fun w' => w'.cell? ⟨E, 7, none⟩ = some (.slice (some ⟨LB, 0, none⟩) 1 1) ∧ w'.cell? ⟨LB, 0, none⟩ = some (.slice none 0 0))) (by kernel_rfl) ⟨yE7, yL⟩ (fun hHeld => ?_)
    refine AnyL.take2 (i := 0) (oi := { dst := some 95, op := Go.Op.move (Go.Operand.tmp 8), type := 58, pos := _, after := #[], guard := none }) (v := ?vv47001) (by kernel_rfl) (by kernel_rfl) rfl (by kernel_rfl) (by kernel_rfl) (by kernel_rfl) (fun _ _ _ h => h) (Or.inl ⟨by rfl, ?hy47001⟩) (by assumption) ?tk47001
    case hy47001 => (intro w hSw; (try dsimp only at hSw); go_simp; (try with_reducible rfl))
    try simp only [Act.put, List.setIfInBounds_toArray, List.set_cons_zero, List.set_cons_succ]
    refine AnyL.take2 (i := 1) (oi := { dst := some 96, op := Go.Op.nilCheck (Go.Operand.tmp 95), type := 0, pos := _, after := #[{ on := 0, ground := Go.Ground.data }], guard := none }) (v := ?vv47002) (by kernel_rfl) (by kernel_rfl) rfl (by kernel_rfl) (by kernel_rfl) (by kernel_rfl) (fun _ _ _ h => h) (Or.inl ⟨by rfl, ?hy47002⟩) (by assumption) ?tk47002
    case hy47002 => (intro w hSw; (try dsimp only at hSw); go_simp; (try with_reducible rfl))
    try simp only [Act.put, List.setIfInBounds_toArray, List.set_cons_zero, List.set_cons_succ]
    refine AnyL.take2 (i := 2) (oi := { dst := some 97, op := Go.Op.fieldAddr 86 (Go.Operand.tmp 96) 4, type := 0, pos := _, after := #[{ on := 1, ground := Go.Ground.data }], guard := none }) (v := ?vv47003) (by kernel_rfl) (by kernel_rfl) rfl (by kernel_rfl) (by kernel_rfl) (by kernel_rfl) (fun _ _ _ h => h) (Or.inl ⟨by rfl, ?hy47003⟩) (by assumption) ?tk47003
    case hy47003 => (intro w hSw; (try dsimp only at hSw); go_simp; (try with_reducible rfl))
    try simp only [Act.put, List.setIfInBounds_toArray, List.set_cons_zero, List.set_cons_succ]
    refine AnyL.take2 (i := 3) (oi := { dst := some 98, op := Go.Op.load 77 (Go.Operand.tmp 97), type := 77, pos := _, after := #[{ on := 2, ground := Go.Ground.data }], guard := none }) (v := ?vv47004) (by kernel_rfl) (by kernel_rfl) rfl (by kernel_rfl) (by kernel_rfl) (by kernel_rfl) (fun _ _ _ h => h) (Or.inl ⟨by rfl, ?hy47004⟩) (by assumption) ?tk47004
    case hy47004 => (intro w hSw; (try dsimp only at hSw); go_simp; (try with_reducible rfl))
    try simp only [Act.put, List.setIfInBounds_toArray, List.set_cons_zero, List.set_cons_succ]
    refine AnyL.take2 (i := 4) (oi := { dst := some 99, op := Go.Op.move (Go.Operand.tmp 15), type := 3, pos := _, after := #[], guard := none }) (v := ?vv47005) (by kernel_rfl) (by kernel_rfl) rfl (by kernel_rfl) (by kernel_rfl) (by kernel_rfl) (fun _ _ _ h => h) (Or.inl ⟨by rfl, ?hy47005⟩) (by assumption) ?tk47005
    case hy47005 => (intro w hSw; (try dsimp only at hSw); go_simp; (try with_reducible rfl))
    try simp only [Act.put, List.setIfInBounds_toArray, List.set_cons_zero, List.set_cons_succ]
    refine AnyL.take2 (i := 5) (oi := { dst := some 100, op := Go.Op.move (Go.Operand.tmp 8), type := 58, pos := _, after := #[], guard := none }) (v := ?vv47006) (by kernel_rfl) (by kernel_rfl) rfl (by kernel_rfl) (by kernel_rfl) (by kernel_rfl) (fun _ _ _ h => h) (Or.inl ⟨by rfl, ?hy47006⟩) (by assumption) ?tk47006
    case hy47006 => (intro w hSw; (try dsimp only at hSw); go_simp; (try with_reducible rfl))
    try simp only [Act.put, List.setIfInBounds_toArray, List.set_cons_zero, List.set_cons_succ]
    refine AnyL.take2 (i := 6) (oi := { dst := some 101, op := Go.Op.nilCheck (Go.Operand.tmp 100), type := 0, pos := _, after := #[{ on := 5, ground := Go.Ground.data }], guard := none }) (v := ?vv47007) (by kernel_rfl) (by kernel_rfl) rfl (by kernel_rfl) (by kernel_rfl) (by kernel_rfl) (fun _ _ _ h => h) (Or.inl ⟨by rfl, ?hy47007⟩) (by assumption) ?tk47007
    case hy47007 => (intro w hSw; (try dsimp only at hSw); go_simp; (try with_reducible rfl))
    try simp only [Act.put, List.setIfInBounds_toArray, List.set_cons_zero, List.set_cons_succ]
    refine AnyL.take2 (i := 7) (oi := { dst := some 102, op := Go.Op.fieldAddr 86 (Go.Operand.tmp 101) 4, type := 0, pos := _, after := #[{ on := 6, ground := Go.Ground.data }], guard := none }) (v := ?vv47008) (by kernel_rfl) (by kernel_rfl) rfl (by kernel_rfl) (by kernel_rfl) (by kernel_rfl) (fun _ _ _ h => h) (Or.inl ⟨by rfl, ?hy47008⟩) (by assumption) ?tk47008
    case hy47008 => (intro w hSw; (try dsimp only at hSw); go_simp; (try with_reducible rfl))
    try simp only [Act.put, List.setIfInBounds_toArray, List.set_cons_zero, List.set_cons_succ]
    refine AnyL.take2 (i := 8) (oi := { dst := some 103, op := Go.Op.load 77 (Go.Operand.tmp 102), type := 77, pos := _, after := #[{ on := 7, ground := Go.Ground.data }], guard := none }) (v := ?vv47009) (by kernel_rfl) (by kernel_rfl) rfl (by kernel_rfl) (by kernel_rfl) (by kernel_rfl) (fun _ _ _ h => h) (Or.inl ⟨by rfl, ?hy47009⟩) (by assumption) ?tk47009
    case hy47009 => (intro w hSw; (try dsimp only at hSw); go_simp; (try with_reducible rfl))
    try simp only [Act.put, List.setIfInBounds_toArray, List.set_cons_zero, List.set_cons_succ]
    refine AnyL.take2 (i := 9) (oi := { dst := some 104, op := Go.Op.move (Go.Operand.tmp 15), type := 3, pos := _, after := #[], guard := none }) (v := ?vv47010) (by kernel_rfl) (by kernel_rfl) rfl (by kernel_rfl) (by kernel_rfl) (by kernel_rfl) (fun _ _ _ h => h) (Or.inl ⟨by rfl, ?hy47010⟩) (by assumption) ?tk47010
    case hy47010 => (intro w hSw; (try dsimp only at hSw); go_simp; (try with_reducible rfl))
    try simp only [Act.put, List.setIfInBounds_toArray, List.set_cons_zero, List.set_cons_succ]
    refine AnyL.take2 (i := 10) (oi := { dst := some 105, op := Go.Op.indexAddr 77 (Go.Operand.tmp 103) (Go.Operand.tmp 104), type := 0, pos := _, after := #[{ on := 8, ground := Go.Ground.data }, { on := 9, ground := Go.Ground.data }], guard := none }) (v := ?vv47011) (by kernel_rfl) (by kernel_rfl) rfl (by kernel_rfl) (by kernel_rfl) (by kernel_rfl) (fun _ _ _ h => h) (Or.inl ⟨by rfl, ?hy47011⟩) (by assumption) ?tk47011
    case hy47011 => (intro w hSw; (try dsimp only at hSw); go_simp; (try with_reducible rfl))
    try simp only [Act.put, List.setIfInBounds_toArray, List.set_cons_zero, List.set_cons_succ]
    refine AnyL.take2 (i := 11) (oi := { dst := some 106, op := Go.Op.load 79 (Go.Operand.tmp 105), type := 79, pos := _, after := #[{ on := 10, ground := Go.Ground.data }], guard := none }) (v := ?vv47012) (by kernel_rfl) (by kernel_rfl) rfl (by kernel_rfl) (by kernel_rfl) (by kernel_rfl) (fun _ _ _ h => h) (Or.inl ⟨by rfl, ?hy47012⟩) (by assumption) ?tk47012
    case hy47012 => (intro w hSw; (try dsimp only at hSw); go_simp; (try with_reducible rfl))
    try simp only [Act.put, List.setIfInBounds_toArray, List.set_cons_zero, List.set_cons_succ]
    refine AnyL.take2 (i := 12) (oi := { dst := some 107, op := Go.Op.move (Go.Operand.tmp 13), type := 92, pos := _, after := #[], guard := none }) (v := ?vv47013) (by kernel_rfl) (by kernel_rfl) rfl (by kernel_rfl) (by kernel_rfl) (by kernel_rfl) (fun _ _ _ h => h) (Or.inl ⟨by rfl, ?hy47013⟩) (by assumption) ?tk47013
    case hy47013 => (intro w hSw; (try dsimp only at hSw); go_simp; (try with_reducible rfl))
    try simp only [Act.put, List.setIfInBounds_toArray, List.set_cons_zero, List.set_cons_succ]
    refine AnyL.one (i := 13) (o := { dst := some 108, op := Go.Op.buildSlice 79 1 #[(0, Go.Operand.tmp 107)], type := 79, pos := _, after := #[{ on := 12, ground := Go.Ground.data }], guard := none }) (by kernel_rfl) rfl rfl (fun K' hK' => ?_)
    go_simp
    clear hHeld
    refine hK'.out _ _ ⟨cell_later (below_dr (one_alloc _ _)) yE7, cell_later (below_dr (one_alloc _ _)) yL⟩ (fun hHeld => ?_)
    clear hK' K'
    try simp only [Act.put, List.setIfInBounds_toArray, List.set_cons_zero, List.set_cons_succ]
    refine AnyL.one (i := 14) (o := { dst := some 109, op := Go.Op.call { callee := Go.Callee.builtin Go.Builtin.append, args := #[Go.Operand.tmp 106, Go.Operand.tmp 108], argTypes := #[79, 79] }, type := 79, pos := _, after := #[{ on := 11, ground := Go.Ground.data }, { on := 13, ground := Go.Ground.data }], guard := none }) (by kernel_rfl) rfl rfl (fun K' hK' => ?_)
    refine ite_take (by rfl) ?_
    refine wp_append_own_at (.tmp 106) (.tmp 108) 79 rfl wd.heap.size 92 i92 ((.pointer none)) 1 8 Tryz.underlying79 hi92 hw0 hw1 hw2 rfl (by decide) (.slice none 0 0) 0 [] rfl (own_nil _ _ _ _) ⟨wd.heap.size, 0, none⟩ 1 1 [.pointer (some ⟨RB, 0, none⟩)] rfl rfl (cell_new1 _ _ _) (by simp [Value.oneCell']) (by unfold maxLen; omega) (by omega) (by simp <;> omega) ?_
    intro v' w3 hown' hgrow hblk
    obtain ⟨p', c', rfl⟩ := own_shape hown'
    have kk0 := hgrow.cell (a := ⟨E, 7, none⟩) (hHeld.1) (by simp [Value.ownBlock])
    have kk1 := hgrow.cell (a := ⟨LB, 0, none⟩) (hHeld.2) (by simp [Value.ownBlock])
    have fz3 : ∀ o, w3.frozen? ⟨LB, o, none⟩ = false := fun o => ((World.frozen?_of_block (a := ⟨LB, o, none⟩) (hgrow.block LB (by simp; omega) (by simp [Value.ownBlock]))).trans (World.frozen?_of_block (a := ⟨LB, o, none⟩) ((one_alloc wd _).block LB hLd))).trans (lfd o)
    have HG := hideIt (And.intro hown' (And.intro hgrow hblk))
    clear hown' hgrow hblk
    clear hHeld
    refine hK'.out _ _ ⟨kk0, kk1⟩ (fun hHeld => ?_)
    clear hK' K'
    try simp only [Act.put, List.setIfInBounds_toArray, List.set_cons_zero, List.set_cons_succ]
    refine AnyL.take2 (i := 15) (oi := { dst := some 110, op := Go.Op.indexAddr 77 (Go.Operand.tmp 98) (Go.Operand.tmp 99), type := 0, pos := _, after := #[{ on := 3, ground := Go.Ground.data }, { on := 4, ground := Go.Ground.data }, { on := 0, ground := Go.Ground.phase }, { on := 1, ground := Go.Ground.phase }, { on := 2, ground := Go.Ground.phase }, { on := 3, ground := Go.Ground.phase }, { on := 4, ground := Go.Ground.phase }, { on := 5, ground := Go.Ground.phase }, { on := 6, ground := Go.Ground.phase }, { on := 7, ground := Go.Ground.phase }, { on := 8, ground := Go.Ground.phase }, { on := 9, ground := Go.Ground.phase }, { on := 10, ground := Go.Ground.phase }, { on := 11, ground := Go.Ground.phase }, { on := 12, ground := Go.Ground.phase }, { on := 13, ground := Go.Ground.phase }, { on := 14, ground := Go.Ground.phase }], guard := none }) (v := ?vv47014) (by kernel_rfl) (by kernel_rfl) rfl (by kernel_rfl) (by kernel_rfl) (by kernel_rfl) (fun _ _ _ h => h) (Or.inl ⟨by rfl, ?hy47014⟩) (by assumption) ?tk47014
    case hy47014 => (intro w hSw; (try dsimp only at hSw); go_simp; (try with_reducible rfl))
    try simp only [Act.put, List.setIfInBounds_toArray, List.set_cons_zero, List.set_cons_succ]
    refine AnyL.last (o := { dst := none, op := Go.Op.store 79 (Go.Operand.tmp 110) (Go.Operand.tmp 109), type := 0, pos := _, after := #[{ on := 15, ground := Go.Ground.data }, { on := 14, ground := Go.Ground.data }, { on := 14, ground := Go.Ground.chain }, { on := 0, ground := Go.Ground.phase }, { on := 1, ground := Go.Ground.phase }, { on := 2, ground := Go.Ground.phase }, { on := 3, ground := Go.Ground.phase }, { on := 4, ground := Go.Ground.phase }, { on := 5, ground := Go.Ground.phase }, { on := 6, ground := Go.Ground.phase }, { on := 7, ground := Go.Ground.phase }, { on := 8, ground := Go.Ground.phase }, { on := 9, ground := Go.Ground.phase }, { on := 10, ground := Go.Ground.phase }, { on := 11, ground := Go.Ground.phase }, { on := 12, ground := Go.Ground.phase }, { on := 13, ground := Go.Ground.phase }, { on := 14, ground := Go.Ground.phase }], guard := none }) (by kernel_rfl) rfl (by kernel_rfl) (fun K' hK' => ?_)
    go_simp
    clear hHeld
    refine hK'.out _ _ ?_
    clear hK' K'
    try simp only [Act.put, List.setIfInBounds_toArray, List.set_cons_zero, List.set_cons_succ]
    obtain ⟨hown', hgrow, hblk⟩ := HG.out
    have bN := below_dr (one_alloc wd (.cells #[.pointer (some ⟨RB, 0, none⟩)] 92))
    have b3 : Below wd.heap.size wd w3 := ⟨hgrow.os.trans bN.os, hgrow.tape.trans bN.tape, hgrow.output.trans bN.output, Nat.le_trans bN.size hgrow.size, fun q hq => (hgrow.block q (by have := bN.size; omega) (by simp [Value.ownBlock])).trans (bN.block q hq)⟩
    have own16 : (w3.setCell ⟨LB, 0, none⟩ (.slice p' (0 + 1) c')).ownsRow wd.heap.size 92 1 (.slice p' (0 + 1) c') (0 + 1) [.pointer (some ⟨RB, 0, none⟩)] := own_one hown' (fun q hq => far_set (fun e => by have := (hown'.lt q hq).1; omega))
    obtain ⟨gl, cgl, ep, hcp, hgl, hgll, hglc, _⟩ := own_full own16 (by omega)
    have gl16 : (w3.setCell ⟨LB, 0, none⟩ (.slice p' (0 + 1) c')).cell? ⟨gl, 0, none⟩ = some (.pointer (some ⟨RB, 0, none⟩)) := hglc 0 (by omega)
    obtain ⟨N15, X15, b015, ag14⟩ := H15.out
    obtain ⟨ρ1, ρ2, ρ3⟩ := HR.out
    have hlt15 := N15.lt
    have k16 : ∀ q, q < wd.heap.size → q ≠ LB → (w3.setCell ⟨LB, 0, none⟩ (.slice p' (0 + 1) c')).heap[q]? = wd.heap[q]? := fun q h1 h2 => (far_set h2).trans (b3.block q h1)
    have hs16 : wd.heap.size ≤ (w3.setCell ⟨LB, 0, none⟩ (.slice p' (0 + 1) c')).heap.size := by have := b3.size; simp; omega
    have N16 := N15.keep hs16 (fun q hq => k16 q (by omega) (by omega))
    have X16 : RuX (w3.setCell ⟨LB, 0, none⟩ (.slice p' (0 + 1) c')) ρ := X15.keep (fun q hq => k16 q (X15.lt hq) (by have := ρ3 q hq; omega))
    have b016 : Below w.heap.size w (w3.setCell ⟨LB, 0, none⟩ (.slice p' (0 + 1) c')) := below_cell (b015.trans (b3.mono (by have := b015.size; omega))) (by omega) _
    have LB16 : (w3.setCell ⟨LB, 0, none⟩ (.slice p' (0 + 1) c')).cell? ⟨LB, 0, none⟩ = some (.slice (some ⟨gl, 0, none⟩) 1 cgl) := by rw [← ep]; exact World.cell?_setCell_same _ _ _ kk1
    clear hown' hgrow hblk bN b3 own16 hcp hglc N15 X15 b015 k16 HG H15 kk0 kk1 fz3 yE7 yL lfd ep hlt15
    generalize (w3.setCell ⟨LB, 0, none⟩ (.slice p' (0 + 1) c')) = w16 at *
    obtain ⟨N9, k1, kf, L9, Lf9, b09, ag9, a79, IN⟩ := H9.out
    have yE := N16.T.e.get (k := 21) ((ag14 21 (by omega)).trans ((ag9 21 (by omega) (by omega)).trans rfl)) (by omega)
    have yR := X16.c7
    rw [ρ1, ρ2] at yR
    change w16.cell? ⟨RB, 7, none⟩ = some (.int .i64 3) at yR
    have ef16 := N16.T.e.fz
    have hE16 : E < w16.drew.heap.size := N16.T.e.lt
    have hR16 : RB < w16.drew.heap.size := World.block_lt_of_cell? _ _ yR
    have hgr := grown15 (w := w16.drew) (n := 3) (by omega) (by omega)
    have H16 := hideIt (And.intro N16 (And.intro X16 (And.intro b016 (And.intro LB16 (And.intro gl16 ag14)))))
    clear N16 X16 b016 LB16 gl16 ag14 ρ1 ρ2 ρ3 N9 k1 kf L9 Lf9 b09 ag9 a79 IN
    go_upto_region 19 with fail
    refine wp_region_l (l := 12) (S := (fun w' => w'.cell? ⟨E, 21, none⟩ = some (.slice none 0 0) ∧ w'.cell? ⟨RB, 7, none⟩ = some (.int .i64 3))) (by kernel_rfl) ⟨yE, yR⟩ (fun hHeld => ?_)
    refine AnyL.take2 (i := 0) (oi := { dst := some 111, op := Go.Op.move (Go.Operand.tmp 8), type := 58, pos := _, after := #[], guard := none }) (v := ?vv47015) (by kernel_rfl) (by kernel_rfl) rfl (by kernel_rfl) (by kernel_rfl) (by kernel_rfl) (fun _ _ _ h => h) (Or.inl ⟨by rfl, ?hy47015⟩) (by assumption) ?tk47015
    case hy47015 => (intro w hSw; (try dsimp only at hSw); go_simp; (try with_reducible rfl))
    try simp only [Act.put, List.setIfInBounds_toArray, List.set_cons_zero, List.set_cons_succ]
    refine AnyL.take2 (i := 1) (oi := { dst := some 112, op := Go.Op.move (Go.Operand.tmp 8), type := 58, pos := _, after := #[], guard := none }) (v := ?vv47016) (by kernel_rfl) (by kernel_rfl) rfl (by kernel_rfl) (by kernel_rfl) (by kernel_rfl) (fun _ _ _ h => h) (Or.inl ⟨by rfl, ?hy47016⟩) (by assumption) ?tk47016
    case hy47016 => (intro w hSw; (try dsimp only at hSw); go_simp; (try with_reducible rfl))
    try simp only [Act.put, List.setIfInBounds_toArray, List.set_cons_zero, List.set_cons_succ]
    refine AnyL.take2 (i := 2) (oi := { dst := some 113, op := Go.Op.nilCheck (Go.Operand.tmp 112), type := 0, pos := _, after := #[{ on := 1, ground := Go.Ground.data }], guard := none }) (v := ?vv47017) (by kernel_rfl) (by kernel_rfl) rfl (by kernel_rfl) (by kernel_rfl) (by kernel_rfl) (fun _ _ _ h => h) (Or.inl ⟨by rfl, ?hy47017⟩) (by assumption) ?tk47017
    case hy47017 => (intro w hSw; (try dsimp only at hSw); go_simp; (try with_reducible rfl))
    try simp only [Act.put, List.setIfInBounds_toArray, List.set_cons_zero, List.set_cons_succ]
    refine AnyL.take2 (i := 3) (oi := { dst := some 114, op := Go.Op.fieldAddr 86 (Go.Operand.tmp 113) 11, type := 0, pos := _, after := #[{ on := 2, ground := Go.Ground.data }], guard := none }) (v := ?vv47018) (by kernel_rfl) (by kernel_rfl) rfl (by kernel_rfl) (by kernel_rfl) (by kernel_rfl) (fun _ _ _ h => h) (Or.inl ⟨by rfl, ?hy47018⟩) (by assumption) ?tk47018
    case hy47018 => (intro w hSw; (try dsimp only at hSw); go_simp; (try with_reducible rfl))
    try simp only [Act.put, List.setIfInBounds_toArray, List.set_cons_zero, List.set_cons_succ]
    refine AnyL.take2 (i := 4) (oi := { dst := some 115, op := Go.Op.load 83 (Go.Operand.tmp 114), type := 83, pos := _, after := #[{ on := 3, ground := Go.Ground.data }], guard := none }) (v := ?vv47019) (by kernel_rfl) (by kernel_rfl) rfl (by kernel_rfl) (by kernel_rfl) (by kernel_rfl) (fun _ _ _ h => h) (Or.inl ⟨by rfl, ?hy47019⟩) (by assumption) ?tk47019
    case hy47019 => (intro w hSw; (try dsimp only at hSw); go_simp; (try with_reducible rfl))
    try simp only [Act.put, List.setIfInBounds_toArray, List.set_cons_zero, List.set_cons_succ]
    refine AnyL.take2 (i := 5) (oi := { dst := some 116, op := Go.Op.move (Go.Operand.tmp 13), type := 92, pos := _, after := #[], guard := none }) (v := ?vv47020) (by kernel_rfl) (by kernel_rfl) rfl (by kernel_rfl) (by kernel_rfl) (by kernel_rfl) (fun _ _ _ h => h) (Or.inl ⟨by rfl, ?hy47020⟩) (by assumption) ?tk47020
    case hy47020 => (intro w hSw; (try dsimp only at hSw); go_simp; (try with_reducible rfl))
    try simp only [Act.put, List.setIfInBounds_toArray, List.set_cons_zero, List.set_cons_succ]
    refine AnyL.take2 (i := 6) (oi := { dst := some 117, op := Go.Op.nilCheck (Go.Operand.tmp 116), type := 0, pos := _, after := #[{ on := 5, ground := Go.Ground.data }], guard := none }) (v := ?vv47021) (by kernel_rfl) (by kernel_rfl) rfl (by kernel_rfl) (by kernel_rfl) (by kernel_rfl) (fun _ _ _ h => h) (Or.inl ⟨by rfl, ?hy47021⟩) (by assumption) ?tk47021
    case hy47021 => (intro w hSw; (try dsimp only at hSw); go_simp; (try with_reducible rfl))
    try simp only [Act.put, List.setIfInBounds_toArray, List.set_cons_zero, List.set_cons_succ]
    refine AnyL.take2 (i := 7) (oi := { dst := some 118, op := Go.Op.fieldAddr 106 (Go.Operand.tmp 117) 5, type := 0, pos := _, after := #[{ on := 6, ground := Go.Ground.data }], guard := none }) (v := ?vv47022) (by kernel_rfl) (by kernel_rfl) rfl (by kernel_rfl) (by kernel_rfl) (by kernel_rfl) (fun _ _ _ h => h) (Or.inl ⟨by rfl, ?hy47022⟩) (by assumption) ?tk47022
    case hy47022 => (intro w hSw; (try dsimp only at hSw); go_simp; (try with_reducible rfl))
    try simp only [Act.put, List.setIfInBounds_toArray, List.set_cons_zero, List.set_cons_succ]
    refine AnyL.take2 (i := 8) (oi := { dst := some 119, op := Go.Op.load 3 (Go.Operand.tmp 118), type := 3, pos := _, after := #[{ on := 7, ground := Go.Ground.data }], guard := none }) (v := ?vv47023) (by kernel_rfl) (by kernel_rfl) rfl (by kernel_rfl) (by kernel_rfl) (by kernel_rfl) (fun _ _ _ h => h) (Or.inl ⟨by rfl, ?hy47023⟩) (by assumption) ?tk47023
    case hy47023 => (intro w hSw; (try dsimp only at hSw); go_simp; (try with_reducible rfl))
    try simp only [Act.put, List.setIfInBounds_toArray, List.set_cons_zero, List.set_cons_succ]
    refine AnyL.one (i := 9) (o := { dst := some 120, op := Go.Op.call { callee := Go.Callee.value (Go.Operand.func 15), args := #[Go.Operand.tmp 115, Go.Operand.tmp 119], argTypes := #[83, 3] }, type := 83, pos := _, after := #[{ on := 4, ground := Go.Ground.data }, { on := 8, ground := Go.Ground.data }], guard := none }) (by kernel_rfl) rfl rfl (fun K' hK' => ?_)
    go_simp
    go_at_call 15
    refine hgr.mono ?_
    rintro e w17 ⟨rfl, own17, b17⟩
    have x1 : w17.cell? ⟨E, 21, none⟩ = some (.slice none 0 0) := (World.cell?_of_block (a := ⟨E, 21, none⟩) (b17.block E hE16)).trans yE
    have x2 : w17.cell? ⟨RB, 7, none⟩ = some (.int .i64 3) := (World.cell?_of_block (a := ⟨RB, 7, none⟩) (b17.block RB hR16)).trans yR
    have xf : ∀ o, w17.frozen? ⟨E, o, none⟩ = false := fun o => (World.frozen?_of_block (a := ⟨E, o, none⟩) (b17.block E hE16)).trans (ef16 o)
    have HX17 := hideIt (And.intro own17 b17)
    clear own17 b17 hgr
    clear hHeld
    refine hK'.out _ _ ⟨x1, x2⟩ (fun hHeld => ?_)
    clear hK' K'
    try simp only [Act.put, List.setIfInBounds_toArray, List.set_cons_zero, List.set_cons_succ]
    refine AnyL.take2 (i := 10) (oi := { dst := some 121, op := Go.Op.nilCheck (Go.Operand.tmp 111), type := 0, pos := _, after := #[{ on := 0, ground := Go.Ground.data }, { on := 0, ground := Go.Ground.phase }, { on := 1, ground := Go.Ground.phase }, { on := 2, ground := Go.Ground.phase }, { on := 3, ground := Go.Ground.phase }, { on := 4, ground := Go.Ground.phase }, { on := 5, ground := Go.Ground.phase }, { on := 6, ground := Go.Ground.phase }, { on := 7, ground := Go.Ground.phase }, { on := 8, ground := Go.Ground.phase }, { on := 9, ground := Go.Ground.phase }], guard := none }) (v := ?vv47024) (by kernel_rfl) (by kernel_rfl) rfl (by kernel_rfl) (by kernel_rfl) (by kernel_rfl) (fun _ _ _ h => h) (Or.inl ⟨by rfl, ?hy47024⟩) (by assumption) ?tk47024
    case hy47024 => (intro w hSw; (try dsimp only at hSw); go_simp; (try with_reducible rfl))
    try simp only [Act.put, List.setIfInBounds_toArray, List.set_cons_zero, List.set_cons_succ]
    refine AnyL.take2 (i := 11) (oi := { dst := some 122, op := Go.Op.fieldAddr 86 (Go.Operand.tmp 121) 11, type := 0, pos := _, after := #[{ on := 10, ground := Go.Ground.data }, { on := 0, ground := Go.Ground.phase }, { on := 1, ground := Go.Ground.phase }, { on := 2, ground := Go.Ground.phase }, { on := 3, ground := Go.Ground.phase }, { on := 4, ground := Go.Ground.phase }, { on := 5, ground := Go.Ground.phase }, { on := 6, ground := Go.Ground.phase }, { on := 7, ground := Go.Ground.phase }, { on := 8, ground := Go.Ground.phase }, { on := 9, ground := Go.Ground.phase }], guard := none }) (v := ?vv47025) (by kernel_rfl) (by kernel_rfl) rfl (by kernel_rfl) (by kernel_rfl) (by kernel_rfl) (fun _ _ _ h => h) (Or.inl ⟨by rfl, ?hy47025⟩) (by assumption) ?tk47025
    case hy47025 => (intro w hSw; (try dsimp only at hSw); go_simp; (try with_reducible rfl))
    try simp only [Act.put, List.setIfInBounds_toArray, List.set_cons_zero, List.set_cons_succ]
    refine AnyL.last (o := { dst := none, op := Go.Op.store 83 (Go.Operand.tmp 122) (Go.Operand.tmp 120), type := 0, pos := _, after := #[{ on := 11, ground := Go.Ground.data }, { on := 9, ground := Go.Ground.data }, { on := 9, ground := Go.Ground.chain }, { on := 0, ground := Go.Ground.phase }, { on := 1, ground := Go.Ground.phase }, { on := 2, ground := Go.Ground.phase }, { on := 3, ground := Go.Ground.phase }, { on := 4, ground := Go.Ground.phase }, { on := 5, ground := Go.Ground.phase }, { on := 6, ground := Go.Ground.phase }, { on := 7, ground := Go.Ground.phase }, { on := 8, ground := Go.Ground.phase }, { on := 9, ground := Go.Ground.phase }], guard := none }) (by kernel_rfl) rfl (by kernel_rfl) (fun K' hK' => ?_)
    go_simp
    clear hHeld
    refine hK'.out _ _ ?_
    clear hK' K'
    try simp only [Act.put, List.setIfInBounds_toArray, List.set_cons_zero, List.set_cons_succ]
    obtain ⟨N16, X16, b016, LB16, gl16, ag14⟩ := H16.out
    obtain ⟨own17, b17'⟩ := HX17.out
    have b17 : Below w16.heap.size w16 w17 := ⟨b17'.os, b17'.tape, b17'.output, b17'.size, b17'.block⟩
    obtain ⟨ρ1, ρ2, ρ3⟩ := HR.out
    have hlt16 := N16.lt
    have N18 := (N16.below b17).put (k := 21) (by omega) (by omega) (by omega) (.slice (some ⟨w16.heap.size, 0, none⟩) 3 3)
    have k18 : ∀ q, q < w16.heap.size → q ≠ E → (w17.setCell ⟨E, 21, none⟩ (.slice (some ⟨w16.heap.size, 0, none⟩) 3 3)).heap[q]? = w16.heap[q]? := fun q h1 h2 => (far_set h2).trans (b17.block q h1)
    have X18 : RuX (w17.setCell ⟨E, 21, none⟩ (.slice (some ⟨w16.heap.size, 0, none⟩) 3 3)) ρ := X16.keep (fun q hq => k18 q (X16.lt hq) (by have := ρ3 q hq; omega))
    have own17' : w17.ownsRow w16.heap.size 109 1 (.slice (some ⟨w16.heap.size, 0, none⟩) 3 3) 3 (List.replicate 3 (.int .u32 0)) := own17
    have hGRn : w16.heap.size ≠ E := by omega
    have hg17 : w16.heap.size < w17.heap.size := (own17'.lt w16.heap.size rfl).2
    have G18 : ∀ j, j < 3 → (w17.setCell ⟨E, 21, none⟩ (.slice (some ⟨w16.heap.size, 0, none⟩) 3 3)).cell? ⟨w16.heap.size, j, none⟩ = some (.int .u32 0) := fun j hj => by
      have e := own17'.cellAt j (by omega)
      rw [List.getElem?_replicate, if_pos hj] at e
      exact (World.cell?_of_block (a := ⟨w16.heap.size, j, none⟩) (far_set hGRn)).trans e
    have Gf18 : ∀ o, (w17.setCell ⟨E, 21, none⟩ (.slice (some ⟨w16.heap.size, 0, none⟩) 3 3)).frozen? ⟨w16.heap.size, o, none⟩ = false := fun o => (World.frozen?_setCell _ _ _ _).trans (own17'.frozenAt o)
    have b018 : Below w.heap.size w (w17.setCell ⟨E, 21, none⟩ (.slice (some ⟨w16.heap.size, 0, none⟩) 3 3)) := below_cell (b016.trans (b17.mono (by have := b016.size; omega))) (by omega) _
    have LB18 := (World.cell?_of_block (a := ⟨LB, 0, none⟩) (k18 LB (World.block_lt_of_cell? _ _ LB16) (by omega))).trans LB16
    have gl18 := (World.cell?_of_block (a := ⟨gl, 0, none⟩) (k18 gl (World.block_lt_of_cell? _ _ gl16) (by omega))).trans gl16
    have ag18 : ∀ k, k ≠ 13 → k ≠ 21 → updV c14 21 (.slice (some ⟨w16.heap.size, 0, none⟩) 3 3) k = c9 k := fun k h1 h2 => (updV_other _ _ h2).trans (ag14 k h1)
    have a2118 : updV c14 21 (.slice (some ⟨w16.heap.size, 0, none⟩) 3 3) 21 = .slice (some ⟨w16.heap.size, 0, none⟩) 3 3 := updV_same _ _ _
    have hs18 : w16.heap.size < (w17.setCell ⟨E, 21, none⟩ (.slice (some ⟨w16.heap.size, 0, none⟩) 3 3)).heap.size := by simp; omega
    have hρl : ∀ q, ρ.has q → q < w16.heap.size := fun q hq => X16.lt hq
    clear N16 X16 b016 LB16 gl16 ag14 own17 own17' b17' b17 k18 HX17 H16 x1 x2 xf yE yR ef16 hE16 hR16 hg17 hlt16
    generalize updV c14 21 (.slice (some ⟨w16.heap.size, 0, none⟩) 3 3) = c18 at *
    generalize (w17.setCell ⟨E, 21, none⟩ (.slice (some ⟨w16.heap.size, 0, none⟩) 3 3)) = w18 at *
    obtain ⟨N9, k1, kf, L9, Lf9, b09, ag9, a79, IN⟩ := H9.out
    have yE := N18.T.e.get (k := 22) ((ag18 22 (by omega) (by omega)).trans ((ag9 22 (by omega) (by omega)).trans rfl)) (by omega)
    have yR := X18.c4
    rw [ρ1, ρ2] at yR
    change w18.cell? ⟨RB, 4, none⟩ = some (.slice (some ⟨ρ.gj, 0, none⟩) 2 ρ.cj) at yR
    have ef16 := N18.T.e.fz
    have hE16 : E < w18.drew.heap.size := N18.T.e.lt
    have hR16 : RB < w18.drew.heap.size := World.block_lt_of_cell? _ _ yR
    have hgc := grown16 (w := w18.drew) (n := 2) (by omega) (by omega)
    have H18 := hideIt (And.intro N18 (And.intro X18 (And.intro b018 (And.intro LB18 (And.intro gl18 (And.intro ag18 (And.intro a2118 (And.intro G18 (And.intro Gf18 hρl)))))))))
    clear N18 X18 b018 LB18 gl18 ag18 a2118 G18 Gf18 hρl ρ1 ρ2 ρ3 N9 k1 kf L9 Lf9 b09 ag9 a79 IN
    go_upto_region 20 with fail
    refine wp_region_l (l := 13) (S := (fun w' => w'.cell? ⟨E, 22, none⟩ = some (.slice none 0 0) ∧ w'.cell? ⟨RB, 4, none⟩ = some (.slice (some ⟨ρ.gj, 0, none⟩) 2 ρ.cj))) (by kernel_rfl) ⟨yE, yR⟩ (fun hHeld => ?_)
    refine AnyL.take2 (i := 0) (oi := { dst := some 123, op := Go.Op.move (Go.Operand.tmp 8), type := 58, pos := _, after := #[], guard := none }) (v := ?vv47026) (by kernel_rfl) (by kernel_rfl) rfl (by kernel_rfl) (by kernel_rfl) (by kernel_rfl) (fun _ _ _ h => h) (Or.inl ⟨by rfl, ?hy47026⟩) (by assumption) ?tk47026
    case hy47026 => (intro w hSw; (try dsimp only at hSw); go_simp; (try with_reducible rfl))
    try simp only [Act.put, List.setIfInBounds_toArray, List.set_cons_zero, List.set_cons_succ]
    refine AnyL.take2 (i := 1) (oi := { dst := some 124, op := Go.Op.move (Go.Operand.tmp 8), type := 58, pos := _, after := #[], guard := none }) (v := ?vv47027) (by kernel_rfl) (by kernel_rfl) rfl (by kernel_rfl) (by kernel_rfl) (by kernel_rfl) (fun _ _ _ h => h) (Or.inl ⟨by rfl, ?hy47027⟩) (by assumption) ?tk47027
    case hy47027 => (intro w hSw; (try dsimp only at hSw); go_simp; (try with_reducible rfl))
    try simp only [Act.put, List.setIfInBounds_toArray, List.set_cons_zero, List.set_cons_succ]
    refine AnyL.take2 (i := 2) (oi := { dst := some 125, op := Go.Op.nilCheck (Go.Operand.tmp 124), type := 0, pos := _, after := #[{ on := 1, ground := Go.Ground.data }], guard := none }) (v := ?vv47028) (by kernel_rfl) (by kernel_rfl) rfl (by kernel_rfl) (by kernel_rfl) (by kernel_rfl) (fun _ _ _ h => h) (Or.inl ⟨by rfl, ?hy47028⟩) (by assumption) ?tk47028
    case hy47028 => (intro w hSw; (try dsimp only at hSw); go_simp; (try with_reducible rfl))
    try simp only [Act.put, List.setIfInBounds_toArray, List.set_cons_zero, List.set_cons_succ]
    refine AnyL.take2 (i := 3) (oi := { dst := some 126, op := Go.Op.fieldAddr 86 (Go.Operand.tmp 125) 12, type := 0, pos := _, after := #[{ on := 2, ground := Go.Ground.data }], guard := none }) (v := ?vv47029) (by kernel_rfl) (by kernel_rfl) rfl (by kernel_rfl) (by kernel_rfl) (by kernel_rfl) (fun _ _ _ h => h) (Or.inl ⟨by rfl, ?hy47029⟩) (by assumption) ?tk47029
    case hy47029 => (intro w hSw; (try dsimp only at hSw); go_simp; (try with_reducible rfl))
    try simp only [Act.put, List.setIfInBounds_toArray, List.set_cons_zero, List.set_cons_succ]
    refine AnyL.take2 (i := 4) (oi := { dst := some 127, op := Go.Op.load 84 (Go.Operand.tmp 126), type := 84, pos := _, after := #[{ on := 3, ground := Go.Ground.data }], guard := none }) (v := ?vv47030) (by kernel_rfl) (by kernel_rfl) rfl (by kernel_rfl) (by kernel_rfl) (by kernel_rfl) (fun _ _ _ h => h) (Or.inl ⟨by rfl, ?hy47030⟩) (by assumption) ?tk47030
    case hy47030 => (intro w hSw; (try dsimp only at hSw); go_simp; (try with_reducible rfl))
    try simp only [Act.put, List.setIfInBounds_toArray, List.set_cons_zero, List.set_cons_succ]
    refine AnyL.take2 (i := 5) (oi := { dst := some 128, op := Go.Op.move (Go.Operand.tmp 13), type := 92, pos := _, after := #[], guard := none }) (v := ?vv47031) (by kernel_rfl) (by kernel_rfl) rfl (by kernel_rfl) (by kernel_rfl) (by kernel_rfl) (fun _ _ _ h => h) (Or.inl ⟨by rfl, ?hy47031⟩) (by assumption) ?tk47031
    case hy47031 => (intro w hSw; (try dsimp only at hSw); go_simp; (try with_reducible rfl))
    try simp only [Act.put, List.setIfInBounds_toArray, List.set_cons_zero, List.set_cons_succ]
    refine AnyL.take2 (i := 6) (oi := { dst := some 129, op := Go.Op.nilCheck (Go.Operand.tmp 128), type := 0, pos := _, after := #[{ on := 5, ground := Go.Ground.data }], guard := none }) (v := ?vv47032) (by kernel_rfl) (by kernel_rfl) rfl (by kernel_rfl) (by kernel_rfl) (by kernel_rfl) (fun _ _ _ h => h) (Or.inl ⟨by rfl, ?hy47032⟩) (by assumption) ?tk47032
    case hy47032 => (intro w hSw; (try dsimp only at hSw); go_simp; (try with_reducible rfl))
    try simp only [Act.put, List.setIfInBounds_toArray, List.set_cons_zero, List.set_cons_succ]
    refine AnyL.take2 (i := 7) (oi := { dst := some 130, op := Go.Op.fieldAddr 106 (Go.Operand.tmp 129) 2, type := 0, pos := _, after := #[{ on := 6, ground := Go.Ground.data }], guard := none }) (v := ?vv47033) (by kernel_rfl) (by kernel_rfl) rfl (by kernel_rfl) (by kernel_rfl) (by kernel_rfl) (fun _ _ _ h => h) (Or.inl ⟨by rfl, ?hy47033⟩) (by assumption) ?tk47033
    case hy47033 => (intro w hSw; (try dsimp only at hSw); go_simp; (try with_reducible rfl))
    try simp only [Act.put, List.setIfInBounds_toArray, List.set_cons_zero, List.set_cons_succ]
    refine AnyL.take2 (i := 8) (oi := { dst := some 131, op := Go.Op.load 103 (Go.Operand.tmp 130), type := 103, pos := _, after := #[{ on := 7, ground := Go.Ground.data }], guard := none }) (v := ?vv47034) (by kernel_rfl) (by kernel_rfl) rfl (by kernel_rfl) (by kernel_rfl) (by kernel_rfl) (fun _ _ _ h => h) (Or.inl ⟨by rfl, ?hy47034⟩) (by assumption) ?tk47034
    case hy47034 => (intro w hSw; (try dsimp only at hSw); go_simp; (try with_reducible rfl))
    try simp only [Act.put, List.setIfInBounds_toArray, List.set_cons_zero, List.set_cons_succ]
    refine AnyL.take2 (i := 9) (oi := { dst := some 132, op := Go.Op.call { callee := Go.Callee.builtin Go.Builtin.len, args := #[Go.Operand.tmp 131], argTypes := #[103] }, type := 3, pos := _, after := #[{ on := 8, ground := Go.Ground.data }], guard := none }) (v := ?vv47035) (by kernel_rfl) (by kernel_rfl) rfl (by kernel_rfl) (by kernel_rfl) (by kernel_rfl) (fun _ _ _ h => h) (Or.inl ⟨by rfl, ?hy47035⟩) (by assumption) ?tk47035
    case hy47035 => (intro w hSw; (try dsimp only at hSw); go_simp; (try with_reducible rfl))
    try simp only [Act.put, List.setIfInBounds_toArray, List.set_cons_zero, List.set_cons_succ]
    refine AnyL.one (i := 10) (o := { dst := some 133, op := Go.Op.call { callee := Go.Callee.value (Go.Operand.func 16), args := #[Go.Operand.tmp 127, Go.Operand.tmp 132], argTypes := #[84, 3] }, type := 84, pos := _, after := #[{ on := 4, ground := Go.Ground.data }, { on := 9, ground := Go.Ground.data }], guard := none }) (by kernel_rfl) rfl rfl (fun K' hK' => ?_)
    go_simp
    go_at_call 16
    refine hgc.mono ?_
    rintro e w17 ⟨rfl, own17, b17⟩
    have x1 : w17.cell? ⟨E, 22, none⟩ = some (.slice none 0 0) := (World.cell?_of_block (a := ⟨E, 22, none⟩) (b17.block E hE16)).trans yE
    have x2 : w17.cell? ⟨RB, 4, none⟩ = some (.slice (some ⟨ρ.gj, 0, none⟩) 2 ρ.cj) := (World.cell?_of_block (a := ⟨RB, 4, none⟩) (b17.block RB hR16)).trans yR
    have xf : ∀ o, w17.frozen? ⟨E, o, none⟩ = false := fun o => (World.frozen?_of_block (a := ⟨E, o, none⟩) (b17.block E hE16)).trans (ef16 o)
    have HX17 := hideIt (And.intro own17 b17)
    clear own17 b17 hgc
    clear hHeld
    refine hK'.out _ _ ⟨x1, x2⟩ (fun hHeld => ?_)
    clear hK' K'
    try simp only [Act.put, List.setIfInBounds_toArray, List.set_cons_zero, List.set_cons_succ]
    refine AnyL.take2 (i := 11) (oi := { dst := some 134, op := Go.Op.nilCheck (Go.Operand.tmp 123), type := 0, pos := _, after := #[{ on := 0, ground := Go.Ground.data }, { on := 0, ground := Go.Ground.phase }, { on := 1, ground := Go.Ground.phase }, { on := 2, ground := Go.Ground.phase }, { on := 3, ground := Go.Ground.phase }, { on := 4, ground := Go.Ground.phase }, { on := 5, ground := Go.Ground.phase }, { on := 6, ground := Go.Ground.phase }, { on := 7, ground := Go.Ground.phase }, { on := 8, ground := Go.Ground.phase }, { on := 9, ground := Go.Ground.phase }, { on := 10, ground := Go.Ground.phase }], guard := none }) (v := ?vv47036) (by kernel_rfl) (by kernel_rfl) rfl (by kernel_rfl) (by kernel_rfl) (by kernel_rfl) (fun _ _ _ h => h) (Or.inl ⟨by rfl, ?hy47036⟩) (by assumption) ?tk47036
    case hy47036 => (intro w hSw; (try dsimp only at hSw); go_simp; (try with_reducible rfl))
    try simp only [Act.put, List.setIfInBounds_toArray, List.set_cons_zero, List.set_cons_succ]
    refine AnyL.take2 (i := 12) (oi := { dst := some 135, op := Go.Op.fieldAddr 86 (Go.Operand.tmp 134) 12, type := 0, pos := _, after := #[{ on := 11, ground := Go.Ground.data }, { on := 0, ground := Go.Ground.phase }, { on := 1, ground := Go.Ground.phase }, { on := 2, ground := Go.Ground.phase }, { on := 3, ground := Go.Ground.phase }, { on := 4, ground := Go.Ground.phase }, { on := 5, ground := Go.Ground.phase }, { on := 6, ground := Go.Ground.phase }, { on := 7, ground := Go.Ground.phase }, { on := 8, ground := Go.Ground.phase }, { on := 9, ground := Go.Ground.phase }, { on := 10, ground := Go.Ground.phase }], guard := none }) (v := ?vv47037) (by kernel_rfl) (by kernel_rfl) rfl (by kernel_rfl) (by kernel_rfl) (by kernel_rfl) (fun _ _ _ h => h) (Or.inl ⟨by rfl, ?hy47037⟩) (by assumption) ?tk47037
    case hy47037 => (intro w hSw; (try dsimp only at hSw); go_simp; (try with_reducible rfl))
    try simp only [Act.put, List.setIfInBounds_toArray, List.set_cons_zero, List.set_cons_succ]
    refine AnyL.last (o := { dst := none, op := Go.Op.store 84 (Go.Operand.tmp 135) (Go.Operand.tmp 133), type := 0, pos := _, after := #[{ on := 12, ground := Go.Ground.data }, { on := 10, ground := Go.Ground.data }, { on := 10, ground := Go.Ground.chain }, { on := 0, ground := Go.Ground.phase }, { on := 1, ground := Go.Ground.phase }, { on := 2, ground := Go.Ground.phase }, { on := 3, ground := Go.Ground.phase }, { on := 4, ground := Go.Ground.phase }, { on := 5, ground := Go.Ground.phase }, { on := 6, ground := Go.Ground.phase }, { on := 7, ground := Go.Ground.phase }, { on := 8, ground := Go.Ground.phase }, { on := 9, ground := Go.Ground.phase }, { on := 10, ground := Go.Ground.phase }], guard := none }) (by kernel_rfl) rfl (by kernel_rfl) (fun K' hK' => ?_)
    go_simp
    clear hHeld
    refine hK'.out _ _ ?_
    clear hK' K'
    try simp only [Act.put, List.setIfInBounds_toArray, List.set_cons_zero, List.set_cons_succ]
    go_wp2
    go_roundg 0
    case measure => omega
    case rel =>
      obtain ⟨N18, X18, b018, LB18, gl18, ag18, a2118, G18, Gf18, hρl⟩ := H18.out
      obtain ⟨own17, b17'⟩ := HX17.out
      have b17 : Below w18.heap.size w18 w17 := ⟨b17'.os, b17'.tape, b17'.output, b17'.size, b17'.block⟩
      obtain ⟨ρ1, ρ2, ρ3⟩ := HR.out
      have own17' : w17.ownsRow w18.heap.size 112 6 (.slice (some ⟨w18.heap.size, 0, none⟩) 2 2) 2 (madeCells #[.int .i64 0, .int .i64 0, .int .i64 0, .int .i32 0, .int .i64 0, .slice none 0 0] (2 * 6)).toList := own17
      have hlt18 := N18.lt
      have N20 := (N18.below b17).put (k := 22) (by omega) (by omega) (by omega) (.slice (some ⟨w18.heap.size, 0, none⟩) 2 2)
      have k20 : ∀ q, q < w18.heap.size → q ≠ E → (w17.setCell ⟨E, 22, none⟩ (.slice (some ⟨w18.heap.size, 0, none⟩) 2 2)).heap[q]? = w18.heap[q]? := fun q h1 h2 => (far_set h2).trans (b17.block q h1)
      have hGCn : w18.heap.size ≠ E := by omega
      have hGRn : w16.heap.size ≠ E := by omega
      have eG := k20 w16.heap.size hs18 hGRn
      subst ρ1
      refine ⟨1, by omega, by go_num, fun h => by omega, fun _ => ⟨below_cell (b018.trans (b17.mono (by have := b018.size; omega))) (by omega) _, gl, cgl, w16.heap.size, w18.heap.size, _, ρ, N20, fun k h1 h2 h3 => (updV_other _ _ h3).trans (ag18 k h1 h2), (updV_other _ _ (by omega)).trans a2118, updV_same _ _ _, (World.cell?_of_block (a := ⟨LB, 0, none⟩) (k20 LB (World.block_lt_of_cell? _ _ LB18) (by omega))).trans LB18, (World.cell?_of_block (a := ⟨gl, 0, none⟩) (k20 gl (World.block_lt_of_cell? _ _ gl18) (by omega))).trans gl18, X18.keep (fun q hq => k20 q (X18.lt hq) (by have := ρ3 q hq; omega)), ρ2, fun q hq => ⟨by have := ρ3 q hq; omega, hρl q hq⟩, fun j hj => (World.cell?_of_block (a := ⟨w16.heap.size, j, none⟩) eG).trans (G18 j hj), fun o => (World.frozen?_of_block (a := ⟨w16.heap.size, o, none⟩) eG).trans (Gf18 o), fun k x hk hx => ?_, fun o => (World.frozen?_setCell _ _ _ _).trans (own17'.frozenAt o), by omega⟩⟩
      have e := own17'.cellAt (k * 6 + x) (by omega)
      exact (World.cell?_of_block (a := ⟨w18.heap.size, k * 6 + x, none⟩) (far_set hGCn)).trans (e.trans (made_six _ _ _ _ _ _ k x hx hk))
  have ein : i = 1 := by omega
  obtain ⟨b010, gl, cgl, GR, GC, c10, ρ, R10⟩ := hI1 ein
  have i1 : ¬ ((i : Int) < 1) := by omega
  obtain ⟨N9, k1, kf, L9, Lf9, b09, ag9, a79, IN⟩ := H9.out
  obtain ⟨w10, hw10⟩ : ∃ w10, w10 = wr := ⟨_, rfl⟩
  subst hw10
  have hfc := facts_any (w := w10) (w0 := w) (gd := gd) (cF := cF) R10.N.T ((R10.ag 0 (by omega) (by omega) (by omega)).trans ((ag9 0 (by omega) (by omega)).trans rfl)) ((R10.ag 4 (by omega) (by omega) (by omega)).trans ((ag9 4 (by omega) (by omega)).trans rfl)) ((R10.ag 16 (by omega) (by omega) (by omega)).trans ((ag9 16 (by omega) (by omega)).trans rfl)) R10.N.S R10.N.k0 IN.db IN.ok b010 (by omega) R10.N.olds
  have HF := hideIt (And.intro R10 (And.intro b010 (And.intro ag9 (And.intro a79 IN))))
  clear hI0 hI1 hin hi ein R10 b010 N9 k1 kf L9 Lf9 b09 ag9 a79 IN n19 u0 u1 u2
  go_wp2_with fail
  refine hfc.mono ?_
  rintro e w12 ⟨rfl, wy, rb', c', x, P12, hc', hrb', hr3⟩
  obtain ⟨R10, b010, ag9, a79, IN⟩ := HF.out
  have hw12 : w10.heap.size < w12.heap.size := by have := (P12.F.re 3 (by omega)).fp_lt (.inl rfl); omega
  have bA := one_alloc w12 (.cells #[.int .u8 0, .int .i64 0, .int .i64 0] 61)
  have P13 := P12.below bA hw12
  obtain ⟨RL, cr, e5, hcr, hRL, hRLl, hRLc, _⟩ := own_full P13.F.rl (by omega)
  have E13 := R10.es P13 e5
  have q0 : (w12.alloc (.cells #[.int .u8 0, .int .i64 0, .int .i64 0] 61)).cell? ⟨w12.heap.size, 0, none⟩ = some (.int .u8 0) := new_cell rfl _ _ 0
  have yE5 : (w12.alloc (.cells #[.int .u8 0, .int .i64 0, .int .i64 0] 61)).cell? ⟨E, 5, none⟩ = some (.slice (some ⟨RL, 0, none⟩) 4 cr) := E13.e.get (k := 5) ((updV_other _ _ (by omega)).trans e5) (by omega)
  have hlt10 := R10.N.lt
  have hnf10 := R10.N.nf
  have nS : ¬ S0 E nb SB mi rb c10 FB := fun z => by
    rcases z with z | z | z | z | z | ⟨j, hj, z⟩
    · omega
    · omega
    · omega
    · omega
    · have := (R10.N.T.own.lt FB z).1; omega
    · have := (R10.N.T.r j hj).2.1; omega
  have eF : (w12.alloc (.cells #[.int .u8 0, .int .i64 0, .int .i64 0] 61)).heap[FB]? = w10.heap[FB]? := P13.W.block FB (by omega) nS
  have y0 := (World.cell?_of_block (a := ⟨FB, 0, none⟩) eF).trans R10.N.f0
  have y1 := (World.cell?_of_block (a := ⟨FB, 1, none⟩) eF).trans R10.N.f1
  have y2 := (World.cell?_of_block (a := ⟨FB, 2, none⟩) eF).trans R10.N.f2
  have yf : ∀ o, (w12.alloc (.cells #[.int .u8 0, .int .i64 0, .int .i64 0] 61)).frozen? ⟨FB, o, none⟩ = false := fun o => (World.frozen?_of_block (a := ⟨FB, o, none⟩) eF).trans (R10.N.ff o)
  have b013 := P13.b0 R10.N.olds b010 (by omega)
  have H13 := hideIt (And.intro R10 (And.intro P13 (And.intro E13 (And.intro b013 (And.intro ag9 (And.intro a79 (And.intro IN (And.intro e5 (And.intro hc' (And.intro hrb' (And.intro hr3 (And.intro y0 (And.intro y1 (And.intro y2 yf))))))))))))))
  clear R10 b010 ag9 a79 IN P12 P13 E13 bA hw12 e5 hc' hrb' hr3 hcr hRLc hlt10 hnf10 nS eF y0 y1 y2 yf b013 hfc HF
  go_upto_region 23 with fail
  generalize (w12.alloc (.cells #[.int .u8 0, .int .i64 0, .int .i64 0] 61)) = w13 at *
  go_wp2_with fail
  go_loopg [149] 4 (fun gg v wr => ∃ i : Nat, i + gg = 4 ∧ v = .int .i64 (i : Int) ∧ ES wr (DN ρ E GR GC RL cr rb' x.nt fs sn) (updV c' 16 (.int .i64 (x.nt : Int))) (XN x i) ∧ Ws (fun q => ∃ j, j < 4 ∧ q = rb' j) w13 wr)
  case atStart =>
    obtain ⟨R10, P13, E13, b013, ag9, a79, IN, e5, hc', hrb', hr3, y0, y1, y2, yf⟩ := H13.out
    exact ⟨0, by omega, rfl, E13, Ws.of_below (Below.refl _ _)⟩
  case round =>
  obtain ⟨i, hi, rfl, EI, WI⟩ := hrel
  by_cases hin : i < 4
  · have i0 : (0 : Int) ≤ i := by omega
    have i1 : (i : Int) < 4 := by omega
    have yl := EI.rl i hin
    have yl : wr.cell? ⟨RL, i, none⟩ = some (.pointer (some ⟨rb' i, 0, none⟩)) := yl
    have hsl := seal_any (EI.re i hin).at'
    have HX0 := hideIt (And.intro EI WI)
    clear EI WI
    have hsl' : Calls Tryz.prog 18 #[.pointer (some ⟨rb' i, 0, none⟩)] wr _ := hsl
    clear hsl
    go_wp2_with fail
    refine hsl'.mono ?_
    rintro e w14 ⟨rfl, hx, hW⟩
    have HX := hideIt (And.intro hx hW)
    clear hx hW hsl'
    go_wp2
    go_roundg (4 - (i + 1))
    case measure => omega
    case rel =>
      obtain ⟨hx, hW⟩ := HX.out
      obtain ⟨EI, WI⟩ := HX0.out
      refine ⟨i + 1, by omega, by go_num, ?_, WI.trans (Ws.of_wr hW ⟨i, hin, rfl⟩)⟩
      have := EI.marks (k := i) (v := (XN x i i).s.idx) (o := (XN x i i).s.rows) (u := (XN x i i).s.rows) hin hW hx
      rw [XN_next] at this
      exact this
  have hi4 : i = 4 := by omega
  subst hi4
  have i1 : ¬ (((4 : Nat) : Int) < 4) := by omega
  obtain ⟨R10, P13, E13, b013, ag9, a79, IN, e5, hc', hrb', hr3, y0, y1, y2, yf⟩ := H13.out
  have hlt10 := R10.N.lt
  have hne10 := R10.N.ne
  have hnf10 := R10.N.nf
  have hbF : ∀ j, j < 4 → FB ≠ rb' j := fun j hj => by
    by_cases q : j < 3
    · rw [hrb' j q]; have := (R10.N.T.r j q).2.1; omega
    · have : j = 3 := by omega
      subst this
      omega
  have hFl : FB < w13.heap.size := World.block_lt_of_cell? _ _ y0
  have kF : wr.heap[FB]? = w13.heap[FB]? := WI.block FB hFl (fun ⟨j, hj, e⟩ => hbF j hj e)
  have v0 := (World.cell?_of_block (a := ⟨FB, 0, none⟩) kF).trans y0
  have v1 := (World.cell?_of_block (a := ⟨FB, 1, none⟩) kF).trans y1
  have v2 := (World.cell?_of_block (a := ⟨FB, 2, none⟩) kF).trans y2
  have vf : ∀ o, wr.frozen? ⟨FB, o, none⟩ = false := fun o => (World.frozen?_of_block (a := ⟨FB, o, none⟩) kF).trans (yf o)
  have HXX := hideIt (And.intro EI (And.intro WI hbF))
  clear R10 P13 E13 b013 ag9 a79 IN e5 hc' hrb' hr3 y0 y1 y2 yf EI WI hbF kF hlt10 hne10 hnf10
  go_wp2
  refine bodyPost_ret (v := .tuple #[.pointer (some ⟨E, 0, none⟩), .agg #[.int .u8 0, .int .i64 0, .int .i64 0]]) ?_ rfl ?_
  · rw [results_tmp_cell rfl]
    go_simp
  · obtain ⟨R10, P13, E13, b013, ag9, a79, IN, e5, hc', hrb', hr3, y0, y1, y2, yf⟩ := H13.out
    obtain ⟨EI, WI, hbF⟩ := HXX.out
    have hlt10 := R10.N.lt
    have hne10 := R10.N.ne
    have hnf10 := R10.N.nf
    have hsz := R10.szs P13
    have hNBe := HNB.out
    have hge : ∀ j, j < 4 → w.heap.size ≤ rb' j := fun j hj => by
      by_cases q : j < 3
      · rw [hrb' j q]; have := (R10.N.T.r j q).2.1; omega
      · have : j = 3 := by omega
        subst this
        omega
    have kw : ∀ q, q ≠ FB → (((wr.setCell ⟨FB, 0, none⟩ (.int .u8 0)).setCell ⟨FB, 1, none⟩ (.int .i64 0)).setCell ⟨FB, 2, none⟩ (.int .i64 0)).heap[q]? = wr.heap[q]? := fun q h4 => (far_set h4).trans ((far_set h4).trans (far_set h4))
    have b0r : Below w.heap.size w wr := ⟨WI.os.trans b013.os, WI.tape.trans b013.tape, WI.output.trans b013.output, Nat.le_trans b013.size WI.size, fun q hq => (WI.block q (by have := b013.size; omega) (fun ⟨j, hj, e⟩ => by have := hge j hj; omega)).trans (b013.block q hq)⟩
    have hwF : w.heap.size ≤ FB := by omega
    have hbl := below_cell (below_cell (below_cell b0r hwF (.int .u8 0) (o := 0)) hwF (.int .i64 0) (o := 1)) hwF (.int .i64 0) (o := 2)
    have EF : ES (((wr.setCell ⟨FB, 0, none⟩ (.int .u8 0)).setCell ⟨FB, 1, none⟩ (.int .i64 0)).setCell ⟨FB, 2, none⟩ (.int .i64 0)) (DN ρ E GR GC RL cr rb' x.nt fs sn) (updV c' 16 (.int .i64 (x.nt : Int))) (XN x 4) := EI.keep (by simp) (fun k q hk h1 h2 hq => kw q (fun e => by
      subst e
      rcases R10.cls P13 e5 4 k q hk hq with z | ⟨y, z⟩
      · rcases z with ⟨u, z⟩ | ⟨u, z⟩ | ⟨u, z⟩
        · omega
        · omega
        · have := hsz.2.2.1 q z; omega
      · by_cases h3 : 3 ≤ kmN k
        · rcases P13.fr (kmN k) q h3 (by unfold kmN; split; omega; split <;> omega) z with z | z
          · rcases z with z | z | z | ⟨j, hj, z⟩
            · omega
            · omega
            · have := (R10.N.T.own.lt q z).1; omega
            · have := (R10.N.T.r j hj).2.1; omega
          · omega
        · have hk0 : k = 0 := by
            rcases y with y | y | y
            · exact y
            · subst y; exact absurd (by decide) h3
            · exact absurd (by unfold kmN; rw [if_neg (by omega), if_neg (by omega)]; omega) h3
          subst hk0
          have z : q = E := z
          omega))
    exact ⟨_, rfl, _, _, _, _, _, _, _, _, _, _, R10.ok P13 hc' hrb' hr3 e5 ag9 a79 EF (fun q h1 h2 h3 => (kw q h3).trans (WI.block q h1 (fun ⟨j, hj, e⟩ => h2 j hj e))) hbl IN.p IN.o (by omega)⟩
end Go.Proofs.Qxb6500880aGreat
