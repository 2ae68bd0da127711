import Derived.Deep.CutBlock
import Derived.OwnWalk
import Derived.Maps.AppendAt
import Derived.Maps.OwnSet
import Derived.Maps.OwnOps
import Derived.Laws.ResultCell
import Derived.Test.Qxb6500880aGreatR0
import Derived.Test.Qxb6500880aGreatQ
set_option linter.unusedVariables false
set_option linter.unusedSimpArgs false
namespace Go.Proofs.Qxb6500880aGreat
open Go.RowKit

theorem results_one_cell {{fn : Func}} {{p : Tmp}} {{ty : TypeId}} (h : fn.results = #[.cell p ty]) (tmps : Array Value) (P : Program) (w : World) :
    (results fn tmps).run P w = ((asAddr (tmps.getD p undef)).run P w).andThen fun a w₁ => (loadVar ty a).run P w₁ := by
  simp only [results, h]
  simp [Sem.run_bind, Result.andThen]
theorem o_same (a : Int) (w : World) : (Op.equalIn 10000 136 (.agg #[.int .i64 a, .int .u32 0]) (.agg #[.int .i64 a, .int .u32 0])).run Tryz.prog w = .ok true w := by
  have hS : Tryz.prog.underlying 136 = some (.struct (Tryz.prog.fieldsOf 136)) := by kernel_rfl
  have hp : Tryz.prog.stoodInHeld 136 = false := by kernel_rfl
  rw [show (10000 : Nat) = 9999 + 1 from rfl, run_equalIn_agg w 9999 136 _ _ hS hp]
  simp only [Program.fieldsOf, Tryz.underlying136]
  clear hS hp
  go_simp
theorem o_neq (a : Int) (w : World) : (binOp .neq 136 (.agg #[.int .i64 a, .int .u32 0]) (.agg #[.int .i64 a, .int .u32 0])).run Tryz.prog w = .ok (.bool false) w := by
  have h := o_same a w
  rw [run_neq_struct, h]
  rfl
theorem guard136 : Tryz.prog.eqGuardType Tryz.prog.depth 136 = false := by kernel_rfl
/-- What is to be written for each register: itself. -/
structure StAt (w : World) (sb g R : Nat) : Prop where
  s : w.cell? ⟨sb, 0, none⟩ = some (.slice (some ⟨g, 0, none⟩) R R)
  c : ∀ j, j < R → w.cell? ⟨g, j * 2, none⟩ = some (.int .i64 (j : Int)) ∧ w.cell? ⟨g, j * 2 + 1, none⟩ = some (.int .u32 0)
theorem StAt.below {w w' : World} {sb g R : Nat} (h : StAt w sb g R) (hb : Below w.heap.size w w') : StAt w' sb g R :=
  ⟨cell_later hb h.s, fun j hj => ⟨cell_later hb (h.c j hj).1, cell_later hb (h.c j hj).2⟩⟩
set_option maxRecDepth 20000 in
set_option maxHeartbeats 8000000 in
theorem resolve_any {w : World} {sb g R r : Nat} (S : StAt w sb g R) (hr : r < R) (hR : R ≤ 1000) : Calls Tryz.prog 28 #[.agg #[.int .i64 (r : Int), .int .u32 0], .pointer (some ⟨sb, 0, none⟩)] w fun e w' => e = .returned (.agg #[.int .i64 (r : Int), .int .u32 0]) ∧ Below w.heap.size w w' := by
  have hnq := o_neq (r : Int)
  have hgd := guard136
  have r0 : (0 : Int) ≤ r := by omega
  have r1 : (r : Int) < (R : Int) := by omega
  have r2 : ((r : Int) == -1) = false := by simp
  have bb : Below w.heap.size w ((w.alloc (.cells #[.int .i64 (r : Int), .int .u32 0] 136)).alloc (.cells #[.int .i64 0, .int .u32 0] 136)) := then_ (one_alloc _ _) (one_alloc _ _)
  have k0 : ((w.alloc (.cells #[.int .i64 (r : Int), .int .u32 0] 136)).alloc (.cells #[.int .i64 0, .int .u32 0] 136)).cell? ⟨w.heap.size, 0, none⟩ = some (.int .i64 (r : Int)) := cell_later (one_alloc _ _) (by simp)
  have k1 : ((w.alloc (.cells #[.int .i64 (r : Int), .int .u32 0] 136)).alloc (.cells #[.int .i64 0, .int .u32 0] 136)).cell? ⟨w.heap.size, 1, none⟩ = some (.int .u32 0) := cell_later (one_alloc _ _) (by simp)
  have k2 := cell_later bb S.s
  have k3 := cell_later bb (S.c r hr).1
  have k4 := cell_later bb (S.c r hr).2
  have y0 : ((w.alloc (.cells #[.int .i64 (r : Int), .int .u32 0] 136)).alloc (.cells #[.int .i64 0, .int .u32 0] 136)).cell? ⟨w.heap.size + 1, 0, none⟩ = some (.int .i64 0) := by simp
  have y1 : ((w.alloc (.cells #[.int .i64 (r : Int), .int .u32 0] 136)).alloc (.cells #[.int .i64 0, .int .u32 0] 136)).cell? ⟨w.heap.size + 1, 1, none⟩ = some (.int .u32 0) := by simp
  have yf : ∀ o, ((w.alloc (.cells #[.int .i64 (r : Int), .int .u32 0] 136)).alloc (.cells #[.int .i64 0, .int .u32 0] 136)).frozen? ⟨w.heap.size + 1, o, none⟩ = false := fun o => by simp
  have HB := hideIt bb
  clear S bb
  go_enter Tryz.func28, Tryz.ntmps28
  go_wp2_with fail
  generalize ((w.alloc (.cells #[.int .i64 (r : Int), .int .u32 0] 136)).alloc (.cells #[.int .i64 0, .int .u32 0] 136)) = w1 at *
  go_loopg [] 0 (fun gg wr => wr = w1)
  case atStart => rfl
  case round =>
    subst hrel
    go_upto_region 1 with fail
    refine wp_region_held_drew (S := (fun w' => w'.cell? ⟨w.heap.size, 0, none⟩ = some (.int .i64 (r : Int)) ∧ w'.cell? ⟨w.heap.size, 1, none⟩ = some (.int .u32 0) ∧ w'.cell? ⟨sb, 0, none⟩ = some (.slice (some ⟨g, 0, none⟩) R R) ∧ w'.cell? ⟨g, r * 2, none⟩ = some (.int .i64 (r : Int)) ∧ w'.cell? ⟨g, r * 2 + 1, none⟩ = some (.int .u32 0))) (by kernel_rfl) ⟨k0, k1, k2, k3, k4⟩ (fun hHeld => ?_)
    refine wpAnyH_take (i := 0) (oi := { dst := some 4, op := Go.Op.fieldAddr 136 (Go.Operand.tmp 2) 0, type := 0, pos := _, after := #[], guard := none }) (v := ?vv18001) rfl (by kernel_rfl) (by kernel_rfl) (by kernel_rfl) (fun _ _ _ h => h) (Or.inl ⟨by rfl, ?hy18001⟩) (by assumption) ?tk18001
    case hy18001 => (intro w hSw; (try dsimp only at hSw); go_simp; (try with_reducible rfl))
    try simp only [Act.put, List.setIfInBounds_toArray, List.set_cons_zero, List.set_cons_succ]
    refine wpAnyH_take (i := 1) (oi := { dst := some 5, op := Go.Op.load 3 (Go.Operand.tmp 4), type := 3, pos := _, after := #[{ on := 0, ground := Go.Ground.data }], guard := none }) (v := ?vv18002) rfl (by kernel_rfl) (by kernel_rfl) (by kernel_rfl) (fun _ _ _ h => h) (Or.inl ⟨by rfl, ?hy18002⟩) (by assumption) ?tk18002
    case hy18002 => (intro w hSw; (try dsimp only at hSw); go_simp; (try with_reducible rfl))
    try simp only [Act.put, List.setIfInBounds_toArray, List.set_cons_zero, List.set_cons_succ]
    refine wpAnyH_take (i := 2) (oi := { dst := some 6, op := Go.Op.binOp Go.BinOp.neq 3 (Go.Operand.tmp 5) (Go.Operand.const (Go.Value.int Go.IntKind.i64 (-1))) 3, type := 4, pos := _, after := #[{ on := 1, ground := Go.Ground.data }], guard := none }) (v := ?vv18003) rfl (by kernel_rfl) (by kernel_rfl) (by kernel_rfl) (fun _ _ _ h => h) (Or.inl ⟨by rfl, ?hy18003⟩) (by assumption) ?tk18003
    case hy18003 => (intro w hSw; (try dsimp only at hSw); go_simp; (try with_reducible rfl))
    try simp only [Act.put, List.setIfInBounds_toArray, List.set_cons_zero, List.set_cons_succ]
    refine wpAnyH_take (i := 3) (oi := { dst := some 7, op := Go.Op.move (Go.Operand.tmp 6), type := 4, pos := _, after := #[{ on := 2, ground := Go.Ground.data }], guard := none }) (v := ?vv18004) rfl (by kernel_rfl) (by kernel_rfl) (by kernel_rfl) (fun _ _ _ h => h) (Or.inl ⟨by rfl, ?hy18004⟩) (by assumption) ?tk18004
    case hy18004 => (intro w hSw; (try dsimp only at hSw); go_simp; (try with_reducible rfl))
    try simp only [Act.put, List.setIfInBounds_toArray, List.set_cons_zero, List.set_cons_succ]
    refine wpAnyH_take (i := 4) (oi := { dst := some 8, op := Go.Op.load 100 (Go.Operand.tmp 1), type := 100, pos := _, after := #[{ on := 3, ground := Go.Ground.guard }], guard := some (3, true) }) (v := ?vv18005) rfl (by kernel_rfl) (by kernel_rfl) (by kernel_rfl) (fun _ _ _ h => h) (Or.inl ⟨by rfl, ?hy18005⟩) (by assumption) ?tk18005
    case hy18005 => (intro w hSw; (try dsimp only at hSw); go_simp; (try with_reducible rfl))
    try simp only [Act.put, List.setIfInBounds_toArray, List.set_cons_zero, List.set_cons_succ]
    refine wpAnyH_take (i := 5) (oi := { dst := some 9, op := Go.Op.fieldAddr 136 (Go.Operand.tmp 2) 0, type := 0, pos := _, after := #[{ on := 3, ground := Go.Ground.guard }], guard := some (3, true) }) (v := ?vv18006) rfl (by kernel_rfl) (by kernel_rfl) (by kernel_rfl) (fun _ _ _ h => h) (Or.inl ⟨by rfl, ?hy18006⟩) (by assumption) ?tk18006
    case hy18006 => (intro w hSw; (try dsimp only at hSw); go_simp; (try with_reducible rfl))
    try simp only [Act.put, List.setIfInBounds_toArray, List.set_cons_zero, List.set_cons_succ]
    refine wpAnyH_take (i := 6) (oi := { dst := some 10, op := Go.Op.load 3 (Go.Operand.tmp 9), type := 3, pos := _, after := #[{ on := 5, ground := Go.Ground.data }, { on := 3, ground := Go.Ground.guard }], guard := some (3, true) }) (v := ?vv18007) rfl (by kernel_rfl) (by kernel_rfl) (by kernel_rfl) (fun _ _ _ h => h) (Or.inl ⟨by rfl, ?hy18007⟩) (by assumption) ?tk18007
    case hy18007 => (intro w hSw; (try dsimp only at hSw); go_simp; (try with_reducible rfl))
    try simp only [Act.put, List.setIfInBounds_toArray, List.set_cons_zero, List.set_cons_succ]
    refine wpAnyH_take (i := 7) (oi := { dst := some 11, op := Go.Op.indexAddr 100 (Go.Operand.tmp 8) (Go.Operand.tmp 10), type := 0, pos := _, after := #[{ on := 4, ground := Go.Ground.data }, { on := 6, ground := Go.Ground.data }, { on := 3, ground := Go.Ground.guard }], guard := some (3, true) }) (v := ?vv18008) rfl (by kernel_rfl) (by kernel_rfl) (by kernel_rfl) (fun _ _ _ h => h) (Or.inl ⟨by rfl, ?hy18008⟩) (by assumption) ?tk18008
    case hy18008 => (intro w hSw; (try dsimp only at hSw); go_simp; (try with_reducible rfl))
    try simp only [Act.put, List.setIfInBounds_toArray, List.set_cons_zero, List.set_cons_succ]
    refine wpAnyH_take (i := 8) (oi := { dst := some 12, op := Go.Op.load 136 (Go.Operand.tmp 11), type := 136, pos := _, after := #[{ on := 7, ground := Go.Ground.data }, { on := 3, ground := Go.Ground.guard }], guard := some (3, true) }) (v := ?vv18009) rfl (by kernel_rfl) (by kernel_rfl) (by kernel_rfl) (fun _ _ _ h => h) (Or.inl ⟨by rfl, ?hy18009⟩) (by assumption) ?tk18009
    case hy18009 => (intro w hSw; (try dsimp only at hSw); go_simp; (try with_reducible rfl))
    try simp only [Act.put, List.setIfInBounds_toArray, List.set_cons_zero, List.set_cons_succ]
    refine wpAnyH_take (i := 9) (oi := { dst := some 13, op := Go.Op.load 136 (Go.Operand.tmp 2), type := 136, pos := _, after := #[{ on := 3, ground := Go.Ground.guard }], guard := some (3, true) }) (v := ?vv18010) rfl (by kernel_rfl) (by kernel_rfl) (by kernel_rfl) (fun _ _ _ h => h) (Or.inl ⟨by rfl, ?hy18010⟩) (by assumption) ?tk18010
    case hy18010 => (intro w hSw; (try dsimp only at hSw); go_simp; (try with_reducible rfl))
    try simp only [Act.put, List.setIfInBounds_toArray, List.set_cons_zero, List.set_cons_succ]
    refine wpAnyH_take (i := 10) (oi := { dst := some 14, op := Go.Op.binOp Go.BinOp.neq 136 (Go.Operand.tmp 12) (Go.Operand.tmp 13) 136, type := 4, pos := _, after := #[{ on := 8, ground := Go.Ground.data }, { on := 9, ground := Go.Ground.data }, { on := 3, ground := Go.Ground.guard }], guard := some (3, true) }) (v := ?vv18011) rfl (by kernel_rfl) (by kernel_rfl) (by kernel_rfl) (fun _ _ _ h => h) (Or.inl ⟨by rfl, ?hy18011⟩) (by assumption) ?tk18011
    case hy18011 => (intro w hSw; (try dsimp only at hSw); go_simp; (try with_reducible rfl))
    try simp only [Act.put, List.setIfInBounds_toArray, List.set_cons_zero, List.set_cons_succ]
    refine wpAnyH_take (i := 11) (oi := { dst := some 15, op := Go.Op.pick (Go.Operand.tmp 7) (Go.Operand.tmp 14) (Go.Operand.const (Go.Value.bool false)), type := 4, pos := _, after := #[{ on := 3, ground := Go.Ground.data }, { on := 10, ground := Go.Ground.data }], guard := none }) (v := ?vv18012) rfl (by kernel_rfl) (by kernel_rfl) (by kernel_rfl) (fun _ _ _ h => h) (Or.inl ⟨by rfl, ?hy18012⟩) (by assumption) ?tk18012
    case hy18012 => (intro w hSw; (try dsimp only at hSw); go_simp; (try with_reducible rfl))
    try simp only [Act.put, List.setIfInBounds_toArray, List.set_cons_zero, List.set_cons_succ]
    refine wpAnyH_done (by kernel_rfl) ?_ _
    clear hHeld
    go_wp2
    refine bodyPost_ret (v := .agg #[.int .i64 (r : Int), .int .u32 0]) ?_ rfl ?_
    · rw [results_one_cell rfl]
      go_simp
    · exact ⟨rfl, below_cell (below_cell (below_dr HB.out) (by omega) _) (by omega) _⟩
set_option maxRecDepth 20000 in
set_option maxHeartbeats 8000000 in
theorem rewrite_any {w : World} {sb g R fb n : Nat} {v : Value} {f : Nat → Nat} (S : StAt w sb g R) (hfb : w.cell? ⟨fb, 0, none⟩ = some (.func (.func 28) #[] #[.pointer (some ⟨sb, 0, none⟩)])) (HO : OpsAt w v n f) (hf : ∀ j, j < n → f j < R) (hR : R ≤ 1000) (hn : n ≤ 100) : Calls Tryz.prog 29 #[v, .pointer (some ⟨fb, 0, none⟩)] w fun e w' => e = .returned (.tuple #[]) ∧ Below w.heap.size w w' := by
  obtain ⟨pa, ca, ea, hca, HO'⟩ := HO
  subst ea
  have HH := hideIt (And.intro S HO')
  clear HO' S
  go_enter Tryz.func29, Tryz.ntmps29
  go_wp2_with fail
  go_loopg [7] n (fun gg vi wr => ∃ i : Nat, i + gg = n ∧ vi = .int .i64 (i : Int) ∧ Below w.heap.size w wr)
  case atStart => exact ⟨0, by omega, rfl, Below.refl _ _⟩
  case round =>
    obtain ⟨i, hi, rfl, hb⟩ := hrel
    by_cases hin : i < n
    · have i0 : (0 : Int) ≤ i := by omega
      have i1 : (i : Int) < (n : Int) := by omega
      obtain ⟨S, HO'⟩ := HH.out
      obtain ⟨ga, rfl, a0, a1, af⟩ : ∃ ga, pa = some ⟨ga, 0, none⟩ ∧ w.cell? ⟨ga, i * 2, none⟩ = some (.int .i64 (f i : Int)) ∧ w.cell? ⟨ga, i * 2 + 1, none⟩ = some (.int .u32 0) ∧ ∀ o, w.frozen? ⟨ga, o, none⟩ = false := by
        rcases HO' with h | ⟨ga, e, h⟩
        · omega
        · exact ⟨ga, e, h i hin⟩
      have hga : ga < w.heap.size := World.block_lt_of_cell? _ _ a0
      obtain ⟨r, hr⟩ : ∃ r, f i = r := ⟨_, rfl⟩
      have hrR : r < R := hr ▸ hf i hin
      rw [hr] at a0
      have bA := one_alloc wr (.cells #[.int .i64 (r : Int), .int .u32 0] 136)
      have b1 := then_ hb bA
      have hrs := resolve_any (S.below b1) hrR hR
      have d0 := cell_later hb a0
      have d1 := cell_later hb a1
      have df : ∀ o, wr.frozen? ⟨ga, o, none⟩ = false := fun o => (World.frozen?_of_block (a := ⟨ga, o, none⟩) (hb.block ga hga)).trans (af o)
      have fb1 := cell_later b1 hfb
      have e0 := cell_later bA d0
      have e1 := cell_later bA d1
      have ef : ∀ o, (wr.alloc (.cells #[.int .i64 (r : Int), .int .u32 0] 136)).frozen? ⟨ga, o, none⟩ = false := fun o => (World.frozen?_of_block (a := ⟨ga, o, none⟩) (b1.block ga hga)).trans (af o)
      have q0 : (wr.alloc (.cells #[.int .i64 (r : Int), .int .u32 0] 136)).cell? ⟨wr.heap.size, 0, none⟩ = some (.int .i64 (r : Int)) := by simp
      have q1 : (wr.alloc (.cells #[.int .i64 (r : Int), .int .u32 0] 136)).cell? ⟨wr.heap.size, 1, none⟩ = some (.int .u32 0) := by simp
      have HB := hideIt (And.intro b1 (And.intro e0 (And.intro e1 ef)))
      have hlt1 : ga < wr.heap.size := by have := hb.size; omega
      clear HH S HO' a0 a1 af bA b1 hb e0 e1 ef hr
      go_upto_region 3 with fail
      generalize hw2 : wr.alloc (.cells #[.int .i64 (r : Int), .int .u32 0] 136) = w2 at *
      go_wp2_with fail
      refine hrs.mono ?_
      rintro e w5 ⟨rfl, hb5⟩
      obtain ⟨b1, e0, e1, ef⟩ := HB.out
      have x0 := cell_later hb5 e0
      have x1 := cell_later hb5 e1
      have xf : ∀ o, w5.frozen? ⟨ga, o, none⟩ = false := fun o => (World.frozen?_of_block (a := ⟨ga, o, none⟩) (hb5.block ga (by have := World.block_lt_of_cell? _ _ e0; exact this))).trans (ef o)
      have HB5 := hideIt (then_ b1 hb5)
      have x2 := setCell_self x0
      have x3 := setCell_self x1
      have HS := hideIt (And.intro x2 x3)
      clear hrs b1 hb5 e0 e1 ef x2 x3 d0 d1 df q0 q1 fb1
      go_wp2
      rw [HS.out.1, HS.out.2]
      go_roundg (n - (i + 1))
      case measure => omega
      case rel => exact ⟨i + 1, by omega, by go_num, HB5.out⟩
    · have e : i = n := by omega
      subst e
      go_wp2
      go_end0
      exact ⟨rfl, hb⟩
end Go.Proofs.Qxb6500880aGreat
