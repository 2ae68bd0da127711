import Derived.Deep.CutBlock
import Derived.OwnWalk
import Derived.Maps.AppendAt
import Derived.Test.Qxb6500880aGreatIa
import Derived.Test.Qxb6500880aGreatHb
set_option linter.unusedVariables false
set_option linter.unusedSimpArgs false
namespace Go.Proofs.Qxb6500880aGreat
open Go.RowKit

theorem own_full {w : World} {base e s n : Nat} {v : Value} {xs : List Value} (h : w.ownsRow base e s v n xs) (hn : 0 < n) : ∃ g c, v = .slice (some ⟨g, 0, none⟩) n c ∧ n ≤ c ∧ base ≤ g ∧ g < w.heap.size ∧ (∀ j, j < n * s → w.cell? ⟨g, j, none⟩ = xs[j]?) ∧ ∀ o, w.frozen? ⟨g, o, none⟩ = false := by
  rcases h.2 with ⟨_, e2⟩ | ⟨g, cap, cur, e1, h1, h2, h3, _⟩
  · omega
  · subst e1
    exact ⟨g, cap, rfl, h3, h1, (h.lt g rfl).2, fun j hj => h.cellAt j hj, fun o => h.frozenAt o⟩
theorem own_nil (w : World) (base e s : Nat) : w.ownsRow base e s (.slice none 0 0) 0 [] := ⟨by simp, .inl ⟨rfl, rfl⟩⟩
theorem own_base {w : World} {b b' e s n : Nat} {v : Value} {xs : List Value} (h : w.ownsRow b e s v n xs) (hb : b' ≤ b) : w.ownsRow b' e s v n xs := by
  refine ⟨h.1, ?_⟩
  rcases h.2 with q | ⟨g, cap, cur, e1, h1, r⟩
  · exact .inl q
  · exact .inr ⟨g, cap, cur, e1, by omega, r⟩
set_option maxRecDepth 20000 in
set_option maxHeartbeats 8000000 in
theorem chain_any {w : World} {IX gh n : Nat} {hd kr : Nat → Nat} {kv : Value} (c1 : w.cell? ⟨IX, 1, none⟩ = some (.slice (some ⟨gh, 0, none⟩) 16 16)) (hh : ∀ j, j < 16 → w.cell? ⟨gh, j, none⟩ = some (.int .i32 (hd j : Int))) (HK : SymR w kv n kr) (hn : n ≤ 100) (hv : ∀ j, j < n → kr j < 64) :
    Calls Tryz.prog 85 #[.pointer (some ⟨IX, 0, none⟩), kv] w fun e w' => e = .returned (.int .i32 (hd (hashN kr n % 16) : Int)) ∧ w' = w.drew := by
  have hhr := hashRow_any (w := w.drew) (HK.below (below_dr (Below.refl _ _))) (by omega) hv
  have hm0 := mask_of (N := 16) ⟨4, rfl, by omega⟩ (x := hashN kr n) (by have := hashR_rng kr n; have := hashN_cast kr n; omega)
  rw [hashN_cast] at hm0
  have hxl : hashN kr n % 16 < 16 := Nat.mod_lt _ (by omega)
  have hx := hh _ hxl
  obtain ⟨x, HX⟩ : ∃ x, Hid (hashN kr n % 16 = x) := ⟨_, hideIt rfl⟩
  rw [HX.out] at hm0 hxl hx ⊢
  have x0 : (0 : Int) ≤ x := by omega
  have x1 : (x : Int) < 16 := by omega
  have hm0' : bits .and .u64 (hashR kr n) 15 = (x : Int) := hm0
  obtain ⟨pk, ck, rfl, hck, HKz⟩ := HK
  have hw1 : IntKind.u64.wrap 15 = 15 := rfl
  have hw2 : IntKind.i64.wrap 15 = 15 := rfl
  clear HKz hh hv hm0
  go_enter Tryz.func85, Tryz.ntmps85
  go_upto_region 3 with fail
  refine wp_region_held_drew (S := (fun w' => w'.cell? ⟨IX, 1, none⟩ = some (.slice (some ⟨gh, 0, none⟩) 16 16) ∧ w'.cell? ⟨gh, x, none⟩ = some (.int .i32 (hd x : Int)))) (by kernel_rfl) ⟨c1, hx⟩ (fun hHeld => ?_)
  refine wpAnyH_take (i := 0) (oi := { dst := some 11, op := Go.Op.move (Go.Operand.tmp 0), type := 188, pos := _, after := #[], guard := none }) (v := ?vv31001) rfl (by kernel_rfl) (by kernel_rfl) (by kernel_rfl) (fun _ _ _ h => h) (Or.inl ⟨by rfl, ?hy31001⟩) (by assumption) ?tk31001
  case hy31001 => (intro w hSw; (try dsimp only at hSw); go_simp; (try with_reducible rfl))
  try simp only [Act.put, List.setIfInBounds_toArray, List.set_cons_zero, List.set_cons_succ]
  refine wpAnyH_take (i := 1) (oi := { dst := some 12, op := Go.Op.nilCheck (Go.Operand.tmp 11), type := 0, pos := _, after := #[{ on := 0, ground := Go.Ground.data }], guard := none }) (v := ?vv31002) rfl (by kernel_rfl) (by kernel_rfl) (by kernel_rfl) (fun _ _ _ h => h) (Or.inl ⟨by rfl, ?hy31002⟩) (by assumption) ?tk31002
  case hy31002 => (intro w hSw; (try dsimp only at hSw); go_simp; (try with_reducible rfl))
  try simp only [Act.put, List.setIfInBounds_toArray, List.set_cons_zero, List.set_cons_succ]
  refine wpAnyH_take (i := 2) (oi := { dst := some 13, op := Go.Op.fieldAddr 225 (Go.Operand.tmp 12) 1, type := 0, pos := _, after := #[{ on := 1, ground := Go.Ground.data }], guard := none }) (v := ?vv31003) rfl (by kernel_rfl) (by kernel_rfl) (by kernel_rfl) (fun _ _ _ h => h) (Or.inl ⟨by rfl, ?hy31003⟩) (by assumption) ?tk31003
  case hy31003 => (intro w hSw; (try dsimp only at hSw); go_simp; (try with_reducible rfl))
  try simp only [Act.put, List.setIfInBounds_toArray, List.set_cons_zero, List.set_cons_succ]
  refine wpAnyH_take (i := 3) (oi := { dst := some 14, op := Go.Op.load 80 (Go.Operand.tmp 13), type := 80, pos := _, after := #[{ on := 2, ground := Go.Ground.data }], guard := none }) (v := ?vv31004) rfl (by kernel_rfl) (by kernel_rfl) (by kernel_rfl) (fun _ _ _ h => h) (Or.inl ⟨by rfl, ?hy31004⟩) (by assumption) ?tk31004
  case hy31004 => (intro w hSw; (try dsimp only at hSw); go_simp; (try with_reducible rfl))
  try simp only [Act.put, List.setIfInBounds_toArray, List.set_cons_zero, List.set_cons_succ]
  refine wpAnyH_take (i := 4) (oi := { dst := some 15, op := Go.Op.move (Go.Operand.tmp 1), type := 83, pos := _, after := #[], guard := none }) (v := ?vv31005) rfl (by kernel_rfl) (by kernel_rfl) (by kernel_rfl) (fun _ _ _ h => h) (Or.inl ⟨by rfl, ?hy31005⟩) (by assumption) ?tk31005
  case hy31005 => (intro w hSw; (try dsimp only at hSw); go_simp; (try with_reducible rfl))
  try simp only [Act.put, List.setIfInBounds_toArray, List.set_cons_zero, List.set_cons_succ]
  refine wpAnyH_take (i := 6) (oi := { dst := some 17, op := Go.Op.move (Go.Operand.tmp 0), type := 188, pos := _, after := #[], guard := none }) (v := ?vv31006) rfl (by kernel_rfl) (by kernel_rfl) (by kernel_rfl) (fun _ _ _ h => h) (Or.inl ⟨by rfl, ?hy31006⟩) (by assumption) ?tk31006
  case hy31006 => (intro w hSw; (try dsimp only at hSw); go_simp; (try with_reducible rfl))
  try simp only [Act.put, List.setIfInBounds_toArray, List.set_cons_zero, List.set_cons_succ]
  refine wpAnyH_take (i := 7) (oi := { dst := some 18, op := Go.Op.nilCheck (Go.Operand.tmp 17), type := 0, pos := _, after := #[{ on := 6, ground := Go.Ground.data }], guard := none }) (v := ?vv31007) rfl (by kernel_rfl) (by kernel_rfl) (by kernel_rfl) (fun _ _ _ h => h) (Or.inl ⟨by rfl, ?hy31007⟩) (by assumption) ?tk31007
  case hy31007 => (intro w hSw; (try dsimp only at hSw); go_simp; (try with_reducible rfl))
  try simp only [Act.put, List.setIfInBounds_toArray, List.set_cons_zero, List.set_cons_succ]
  refine wpAnyH_take (i := 8) (oi := { dst := some 19, op := Go.Op.fieldAddr 225 (Go.Operand.tmp 18) 1, type := 0, pos := _, after := #[{ on := 7, ground := Go.Ground.data }], guard := none }) (v := ?vv31008) rfl (by kernel_rfl) (by kernel_rfl) (by kernel_rfl) (fun _ _ _ h => h) (Or.inl ⟨by rfl, ?hy31008⟩) (by assumption) ?tk31008
  case hy31008 => (intro w hSw; (try dsimp only at hSw); go_simp; (try with_reducible rfl))
  try simp only [Act.put, List.setIfInBounds_toArray, List.set_cons_zero, List.set_cons_succ]
  refine wpAnyH_take (i := 9) (oi := { dst := some 20, op := Go.Op.load 80 (Go.Operand.tmp 19), type := 80, pos := _, after := #[{ on := 8, ground := Go.Ground.data }], guard := none }) (v := ?vv31009) rfl (by kernel_rfl) (by kernel_rfl) (by kernel_rfl) (fun _ _ _ h => h) (Or.inl ⟨by rfl, ?hy31009⟩) (by assumption) ?tk31009
  case hy31009 => (intro w hSw; (try dsimp only at hSw); go_simp; (try with_reducible rfl))
  try simp only [Act.put, List.setIfInBounds_toArray, List.set_cons_zero, List.set_cons_succ]
  refine wpAnyH_take (i := 10) (oi := { dst := some 21, op := Go.Op.call { callee := Go.Callee.builtin Go.Builtin.len, args := #[Go.Operand.tmp 20], argTypes := #[80] }, type := 3, pos := _, after := #[{ on := 9, ground := Go.Ground.data }], guard := none }) (v := ?vv31010) rfl (by kernel_rfl) (by kernel_rfl) (by kernel_rfl) (fun _ _ _ h => h) (Or.inl ⟨by rfl, ?hy31010⟩) (by assumption) ?tk31010
  case hy31010 => (intro w hSw; (try dsimp only at hSw); go_simp; (try with_reducible rfl))
  try simp only [Act.put, List.setIfInBounds_toArray, List.set_cons_zero, List.set_cons_succ]
  refine wpAnyH_take (i := 11) (oi := { dst := some 22, op := Go.Op.binOp Go.BinOp.sub 3 (Go.Operand.tmp 21) (Go.Operand.const (Go.Value.int Go.IntKind.i64 1)) 3, type := 3, pos := _, after := #[{ on := 10, ground := Go.Ground.data }], guard := none }) (v := ?vv31011) rfl (by kernel_rfl) (by kernel_rfl) (by kernel_rfl) (fun _ _ _ h => h) (Or.inl ⟨by rfl, ?hy31011⟩) (by assumption) ?tk31011
  case hy31011 => (intro w hSw; (try dsimp only at hSw); go_simp; (try with_reducible rfl))
  try simp only [Act.put, List.setIfInBounds_toArray, List.set_cons_zero, List.set_cons_succ]
  refine wpAnyH_take (i := 12) (oi := { dst := some 23, op := Go.Op.convert 3 28 (Go.Operand.tmp 22), type := 28, pos := _, after := #[{ on := 11, ground := Go.Ground.data }], guard := none }) (v := ?vv31012) rfl (by kernel_rfl) (by kernel_rfl) (by kernel_rfl) (fun _ _ _ h => h) (Or.inl ⟨by rfl, ?hy31012⟩) (by assumption) ?tk31012
  case hy31012 => (intro w hSw; (try dsimp only at hSw); go_simp; (try with_reducible rfl))
  try simp only [Act.put, List.setIfInBounds_toArray, List.set_cons_zero, List.set_cons_succ]
  refine wpAnyH_ready (rs := [5]) (by kernel_rfl) (by simp) ?_
  refine AllReadyH.cons (o := { dst := some 16, op := Go.Op.call { callee := Go.Callee.value (Go.Operand.func 56), args := #[Go.Operand.tmp 15], argTypes := #[83] }, type := 28, pos := _, after := #[{ on := 4, ground := Go.Ground.data }], guard := none }) rfl (fun K' hK' => ?_) AllReadyH.nil
  go_simp
  go_at_call 56
  refine hhr.mono ?_
  rintro e w5 ⟨rfl, e5⟩
  rw [e5]
  clear e5 hhr
  clear hHeld
  refine hK'.out _ _ ⟨c1, hx⟩ (fun hHeld => ?_)
  clear hK' K'
  try simp only [Act.put, List.setIfInBounds_toArray, List.set_cons_zero, List.set_cons_succ]
  refine wpAnyH_take (i := 13) (oi := { dst := some 24, op := Go.Op.binOp Go.BinOp.and 28 (Go.Operand.tmp 16) (Go.Operand.tmp 23) 28, type := 28, pos := _, after := #[{ on := 5, ground := Go.Ground.data }, { on := 12, ground := Go.Ground.data }], guard := none }) (v := ?vv31013) rfl (by kernel_rfl) (by kernel_rfl) (by kernel_rfl) (fun _ _ _ h => h) (Or.inl ⟨by rfl, ?hy31013⟩) (by assumption) ?tk31013
  case hy31013 => (intro w hSw; (try dsimp only at hSw); go_simp; (try with_reducible rfl))
  try simp only [Act.put, List.setIfInBounds_toArray, List.set_cons_zero, List.set_cons_succ]
  refine wpAnyH_take (i := 14) (oi := { dst := some 25, op := Go.Op.indexAddr 80 (Go.Operand.tmp 14) (Go.Operand.tmp 24), type := 0, pos := _, after := #[{ on := 3, ground := Go.Ground.data }, { on := 13, ground := Go.Ground.data }], guard := none }) (v := ?vv31014) rfl (by kernel_rfl) (by kernel_rfl) (by kernel_rfl) (fun _ _ _ h => h) (Or.inl ⟨by rfl, ?hy31014⟩) (by assumption) ?tk31014
  case hy31014 => (intro w hSw; (try dsimp only at hSw); go_simp; (try with_reducible rfl))
  try simp only [Act.put, List.setIfInBounds_toArray, List.set_cons_zero, List.set_cons_succ]
  refine wpAnyH_take (i := 15) (oi := { dst := some 26, op := Go.Op.load 21 (Go.Operand.tmp 25), type := 21, pos := _, after := #[{ on := 14, ground := Go.Ground.data }], guard := none }) (v := ?vv31015) rfl (by kernel_rfl) (by kernel_rfl) (by kernel_rfl) (fun _ _ _ h => h) (Or.inl ⟨by rfl, ?hy31015⟩) (by assumption) ?tk31015
  case hy31015 => (intro w hSw; (try dsimp only at hSw); go_simp; (try with_reducible rfl))
  try simp only [Act.put, List.setIfInBounds_toArray, List.set_cons_zero, List.set_cons_succ]
  refine wpAnyH_take (i := 16) (oi := { dst := some 4, op := Go.Op.assign (Go.Operand.tmp 26), type := 21, pos := _, after := #[{ on := 15, ground := Go.Ground.data }, { on := 5, ground := Go.Ground.chain }, { on := 0, ground := Go.Ground.phase }, { on := 1, ground := Go.Ground.phase }, { on := 2, ground := Go.Ground.phase }, { on := 3, ground := Go.Ground.phase }, { on := 4, ground := Go.Ground.phase }, { on := 5, ground := Go.Ground.phase }, { on := 6, ground := Go.Ground.phase }, { on := 7, ground := Go.Ground.phase }, { on := 8, ground := Go.Ground.phase }, { on := 9, ground := Go.Ground.phase }, { on := 10, ground := Go.Ground.phase }, { on := 11, ground := Go.Ground.phase }, { on := 12, ground := Go.Ground.phase }, { on := 13, ground := Go.Ground.phase }, { on := 14, ground := Go.Ground.phase }, { on := 15, ground := Go.Ground.phase }], guard := none }) (v := ?vv31016) rfl (by kernel_rfl) (by kernel_rfl) (by kernel_rfl) (fun _ _ _ h => h) (Or.inl ⟨by rfl, ?hy31016⟩) (by assumption) ?tk31016
  case hy31016 => (intro w hSw; (try dsimp only at hSw); go_simp; (try with_reducible rfl))
  try simp only [Act.put, List.setIfInBounds_toArray, List.set_cons_zero, List.set_cons_succ]
  refine wpAnyH_done (by kernel_rfl) ?_ _
  clear hHeld
  go_wp2
  go_ret
  exact ⟨rfl, rfl⟩
/-- The bucket of row i. -/
def bkF (d : Nat → Nat) (A : Nat) (cf : Nat → Nat) (n i : Nat) : Nat := hashN (keyR d A cf i) n % 16
/-- An index at work: k rows entered of R. -/
structure IxW (w : World) (IX gh go co R k : Nat) (hd ol : Nat → Nat) : Prop where
  c1 : w.cell? ⟨IX, 1, none⟩ = some (.slice (some ⟨gh, 0, none⟩) 16 16)
  c2 : w.cell? ⟨IX, 2, none⟩ = some (.slice (some ⟨go, 0, none⟩) R co)
  c3 : w.cell? ⟨IX, 3, none⟩ = some (.int .i64 (k : Int))
  h : ∀ j, j < 16 → w.cell? ⟨gh, j, none⟩ = some (.int .i32 (hd j : Int))
  o : ∀ j, j < R → w.cell? ⟨go, j, none⟩ = some (.int .i32 (ol j : Int))
  rc : R ≤ co
  fx : ∀ o, w.frozen? ⟨IX, o, none⟩ = false
  fh : ∀ o, w.frozen? ⟨gh, o, none⟩ = false
  fo : ∀ o, w.frozen? ⟨go, o, none⟩ = false
  ne : IX ≠ gh ∧ IX ≠ go ∧ gh ≠ go
theorem IxW.keep {w w' : World} {IX gh go co R k : Nat} {hd ol : Nat → Nat} (h : IxW w IX gh go co R k hd ol) (e1 : w'.heap[IX]? = w.heap[IX]?) (e2 : w'.heap[gh]? = w.heap[gh]?) (e3 : w'.heap[go]? = w.heap[go]?) : IxW w' IX gh go co R k hd ol :=
  ⟨(World.cell?_of_block (a := ⟨IX, 1, none⟩) e1).trans h.c1, (World.cell?_of_block (a := ⟨IX, 2, none⟩) e1).trans h.c2, (World.cell?_of_block (a := ⟨IX, 3, none⟩) e1).trans h.c3, fun j hj => (World.cell?_of_block (a := ⟨gh, j, none⟩) e2).trans (h.h j hj), fun j hj => (World.cell?_of_block (a := ⟨go, j, none⟩) e3).trans (h.o j hj), h.rc, fun o => (World.frozen?_of_block (a := ⟨IX, o, none⟩) e1).trans (h.fx o), fun o => (World.frozen?_of_block (a := ⟨gh, o, none⟩) e2).trans (h.fh o), fun o => (World.frozen?_of_block (a := ⟨go, o, none⟩) e3).trans (h.fo o), h.ne⟩
theorem IxW.put_ol {w : World} {IX gh go co R k : Nat} {hd ol : Nat → Nat} (h : IxW w IX gh go co R k hd ol) {j x : Nat} (hj : j < R) : IxW (w.setCell ⟨go, j, none⟩ (.int .i32 (x : Int))) IX gh go co R k hd (fun r => if r = j then x else ol r) := by
  have e1 : (w.setCell ⟨go, j, none⟩ (.int .i32 (x : Int))).heap[IX]? = w.heap[IX]? := far_set h.ne.2.1
  have e2 : (w.setCell ⟨go, j, none⟩ (.int .i32 (x : Int))).heap[gh]? = w.heap[gh]? := far_set h.ne.2.2
  refine ⟨(World.cell?_of_block (a := ⟨IX, 1, none⟩) e1).trans h.c1, (World.cell?_of_block (a := ⟨IX, 2, none⟩) e1).trans h.c2, (World.cell?_of_block (a := ⟨IX, 3, none⟩) e1).trans h.c3, fun j hj => (World.cell?_of_block (a := ⟨gh, j, none⟩) e2).trans (h.h j hj), fun r hr => ?_, h.rc, fun o => (World.frozen?_setCell _ _ _ _).trans (h.fx o), fun o => (World.frozen?_setCell _ _ _ _).trans (h.fh o), fun o => (World.frozen?_setCell _ _ _ _).trans (h.fo o), h.ne⟩
  by_cases q : r = j
  · subst q
    show _ = some (Value.int .i32 ((if r = r then x else ol r : Nat) : Int))
    rw [if_pos rfl]
    exact World.cell?_setCell_same _ _ _ (h.o r hj)
  · show _ = some (Value.int .i32 ((if r = j then x else ol r : Nat) : Int))
    rw [if_neg q, World.cell?_setCell_other _ _ _ _ (by simp <;> omega)]
    exact h.o r hr
theorem IxW.put_hd {w : World} {IX gh go co R k : Nat} {hd ol : Nat → Nat} (h : IxW w IX gh go co R k hd ol) {b x : Nat} (hb : b < 16) : IxW (w.setCell ⟨gh, b, none⟩ (.int .i32 (x : Int))) IX gh go co R k (fun r => if r = b then x else hd r) ol := by
  have e1 : (w.setCell ⟨gh, b, none⟩ (.int .i32 (x : Int))).heap[IX]? = w.heap[IX]? := far_set h.ne.1
  have e2 : (w.setCell ⟨gh, b, none⟩ (.int .i32 (x : Int))).heap[go]? = w.heap[go]? := far_set (fun z => h.ne.2.2 z.symm)
  refine ⟨(World.cell?_of_block (a := ⟨IX, 1, none⟩) e1).trans h.c1, (World.cell?_of_block (a := ⟨IX, 2, none⟩) e1).trans h.c2, (World.cell?_of_block (a := ⟨IX, 3, none⟩) e1).trans h.c3, fun r hr => ?_, fun j hj => (World.cell?_of_block (a := ⟨go, j, none⟩) e2).trans (h.o j hj), h.rc, fun o => (World.frozen?_setCell _ _ _ _).trans (h.fx o), fun o => (World.frozen?_setCell _ _ _ _).trans (h.fh o), fun o => (World.frozen?_setCell _ _ _ _).trans (h.fo o), h.ne⟩
  by_cases q : r = b
  · subst q
    show _ = some (Value.int .i32 ((if r = r then x else hd r : Nat) : Int))
    rw [if_pos rfl]
    exact World.cell?_setCell_same _ _ _ (h.h r hb)
  · show _ = some (Value.int .i32 ((if r = b then x else hd r : Nat) : Int))
    rw [if_neg q, World.cell?_setCell_other _ _ _ _ (by simp <;> omega)]
    exact h.h r hr
theorem IxW.put_k {w : World} {IX gh go co R k : Nat} {hd ol : Nat → Nat} (h : IxW w IX gh go co R k hd ol) (x : Nat) : IxW (w.setCell ⟨IX, 3, none⟩ (.int .i64 (x : Int))) IX gh go co R x hd ol := by
  have e1 : (w.setCell ⟨IX, 3, none⟩ (.int .i64 (x : Int))).heap[gh]? = w.heap[gh]? := far_set (fun z => h.ne.1 z.symm)
  have e2 : (w.setCell ⟨IX, 3, none⟩ (.int .i64 (x : Int))).heap[go]? = w.heap[go]? := far_set (fun z => h.ne.2.1 z.symm)
  exact ⟨(World.cell?_setCell_other _ _ _ _ (by simp)).trans h.c1, (World.cell?_setCell_other _ _ _ _ (by simp)).trans h.c2, World.cell?_setCell_same _ _ _ h.c3, fun j hj => (World.cell?_of_block (a := ⟨gh, j, none⟩) e1).trans (h.h j hj), fun j hj => (World.cell?_of_block (a := ⟨go, j, none⟩) e2).trans (h.o j hj), h.rc, fun o => (World.frozen?_setCell _ _ _ _).trans (h.fx o), fun o => (World.frozen?_setCell _ _ _ _).trans (h.fh o), fun o => (World.frozen?_setCell _ _ _ _).trans (h.fo o), h.ne⟩
/-- The row of the next older ones being made: k of them. -/
structure Ix2 (w wr : World) (IX k : Nat) (ov : Value) : Prop where
  c0 : wr.cell? ⟨IX, 0, none⟩ = w.cell? ⟨IX, 0, none⟩
  c1 : wr.cell? ⟨IX, 1, none⟩ = some (.slice (some ⟨w.heap.size, 0, none⟩) 16 16)
  c2 : wr.cell? ⟨IX, 2, none⟩ = some ov
  c3 : wr.cell? ⟨IX, 3, none⟩ = some (.int .i64 0)
  h : ∀ j, j < 16 → wr.cell? ⟨w.heap.size, j, none⟩ = some (.int .i32 0)
  fx : ∀ o, wr.frozen? ⟨IX, o, none⟩ = false
  fh : ∀ o, wr.frozen? ⟨w.heap.size, o, none⟩ = false
  own : wr.ownsRow (w.heap.size + 1) 21 1 ov k (List.replicate k (.int .i32 0))
  W : Wr IX w wr
  sz : w.heap.size < wr.heap.size
set_option maxRecDepth 20000 in
set_option maxHeartbeats 8000000 in
theorem extend_new {w : World} {IX gc cc n b R : Nat} {cf : Nat → Nat} {nm : ByteArray} {s : RelS} {d : Nat → Nat} (HI : IxC w IX gc cc n cf) (x1 : w.cell? ⟨IX, 1, none⟩ = some (.slice none 0 0)) (x2 : w.cell? ⟨IX, 2, none⟩ = some (.slice none 0 0)) (x3 : w.cell? ⟨IX, 3, none⟩ = some (.int .i64 0)) (fx : ∀ o, w.frozen? ⟨IX, o, none⟩ = false) (H : RelAt w b nm s) (hd : SymR w s.data (s.rows * s.A) d) (hR : R ≤ s.rows) (hR0 : 0 < R) (hR8 : R ≤ 8) (hcf : ∀ j, j < n → cf j < s.A) (a0 : 0 < s.A) (a1 : s.A ≤ 1000) (r1 : s.rows ≤ 1000) (val : ∀ j, j < s.rows * s.A → d j < 64) (hn : n ≤ 100) (hne : b ≠ IX ∧ gc ≠ IX ∧ s.data.ownBlock ≠ some IX) (hgc : gc < w.heap.size) :
    Calls Tryz.prog 62 #[.pointer (some ⟨IX, 0, none⟩), .pointer (some ⟨b, 0, none⟩), .int .i64 (R : Int)] w fun e w' => e = .returned (.tuple #[]) ∧ (∃ gh go co hd ol, IxW w' IX gh go co R R hd ol ∧ Idx 16 R hd ol (bkF d s.A cf n) ∧ w.heap.size ≤ gh ∧ w.heap.size ≤ go) ∧ IxC w' IX gc cc n cf ∧ Wr IX w w' := by
  obtain ⟨i2, hi2, hy0, hy1, hy2⟩ := info_parts info21
  have hIX : IX < w.heap.size := World.block_lt_of_cell? _ _ x1
  have hRi : ¬ ((R : Int) ≤ 0) := by omega
  have hRi2 : (R : Int) > 0 := by omega
  have hRi3 : (0 : Int) < (R : Int) := by omega
  have hw1 : IntKind.i64.wrap (2 * (R : Int)) = 2 * (R : Int) := by rw [IntKind.wrap_i64]; omega
  have h16 : ¬ ((16 : Int) < 2 * (R : Int)) := by omega
  have HQ := hideIt (And.intro HI (And.intro H (And.intro hd (And.intro hcf val))))
  have HNE := hideIt hne
  have HFX := hideIt fx
  clear HI H hd hcf val hne
  go_enter Tryz.func62, Tryz.ntmps62
  go_wp2_with fail
  go_loopg [6] 0 (fun g v wr => v = .int .i64 16 ∧ wr = w)
  case atStart => exact ⟨rfl, rfl⟩
  case round =>
  obtain ⟨rfl, hwr⟩ := hrel
  subst hwr
  obtain ⟨w, rfl⟩ : ∃ x, x = wr := ⟨_, rfl⟩
  go_wp2_with (first | (at_make; refine wpList_make_full _ rfl _ _ 80 rfl w.heap.size 21 i2 _ 1 Tryz.underlying80 hi2 hy0 hy1 .i64 .i64 16 16 16 rfl rfl rfl rfl (by rw [hy2]; omega) (by unfold maxLen; omega) (Nat.le_refl _) ?_) | go_in)
  intro w3 hown3 hgrow3
  have hb3 : Below w.heap.size w w3 := ⟨hgrow3.os, hgrow3.tape, hgrow3.output, hgrow3.size, fun k hk => hgrow3.block k hk (by simp)⟩
  have hs3 : w.heap.size < w3.heap.size := (hown3.lt w.heap.size rfl).2
  have H3 : ∀ j, j < 16 → w3.cell? ⟨w.heap.size, j, none⟩ = some (.int .i32 0) := fun j hj => by
    have e := hown3.cellAt j (by omega)
    rw [made_one, List.getElem?_replicate, if_pos (by omega)] at e
    exact e
  have F3 : ∀ o, w3.frozen? ⟨w.heap.size, o, none⟩ = false := fun o => hown3.frozenAt o
  have x1 := cell_later hb3 x1
  have x2 := cell_later hb3 x2
  have x3 := cell_later hb3 x3
  have fx : ∀ o, w3.frozen? ⟨IX, o, none⟩ = false := fun o => (World.frozen?_of_block (a := ⟨IX, o, none⟩) (hb3.block IX hIX)).trans (fx o)
  have HQ3 := hideIt (And.intro hb3 (And.intro H3 F3))
  clear hown3 hgrow3 hb3 H3 F3
  have hne3 : IX ≠ w.heap.size := by omega
  go_wp2_with fail
  go_loopg [] R (fun gg wr => ∃ k : Nat, k + gg = R ∧ ∃ ov, Ix2 w wr IX k ov)
  case atStart =>
    obtain ⟨hb3, H3, F3⟩ := HQ3.out
    refine ⟨0, by omega, .slice none 0 0, ?_, ?_, ?_, ?_, fun j hj => ?_, fun o => ?_, fun o => ?_, ⟨rfl, .inl ⟨rfl, rfl⟩⟩, ((Wr.of_below hb3).set).set, by simpa using hs3⟩
    · exact (World.cell?_setCell_other _ _ _ _ (by simp)).trans ((World.cell?_setCell_other _ _ _ _ (by simp)).trans (World.cell?_of_block (a := ⟨IX, 0, none⟩) (hb3.block IX hIX)))
    · exact (World.cell?_setCell_other _ _ _ _ (by simp)).trans (World.cell?_setCell_same _ _ _ x1)
    · exact (World.cell?_setCell_other _ _ _ _ (by simp)).trans ((World.cell?_setCell_other _ _ _ _ (by simp)).trans x2)
    · exact World.cell?_setCell_same _ _ _ ((World.cell?_setCell_other _ _ _ _ (by simp)).trans x3)
    · exact (World.cell?_setCell_other _ _ _ _ (by simp <;> omega)).trans ((World.cell?_setCell_other _ _ _ _ (by simp <;> omega)).trans (H3 j hj))
    · exact (World.frozen?_setCell _ _ _ _).trans ((World.frozen?_setCell _ _ _ _).trans (fx o))
    · exact (World.frozen?_setCell _ _ _ _).trans ((World.frozen?_setCell _ _ _ _).trans (F3 o))
  case round =>
    clear x1 x2 x3 HQ3 fx hs3
    obtain ⟨k, hk, ov, X⟩ := hrel
    have y1 := X.c1
    have y2 := X.c2
    have y3 := X.c3
    have fx := X.fx
    obtain ⟨po, co, ho⟩ := own_shape X.own
    subst ho
    have HX := hideIt X
    by_cases hkR : k < R
    · have hlt : (k : Int) < (R : Int) := by omega
      have nb := cell_new_i32 wr 0
      have HOWN := hideIt X.own
      have hIXr : some IX ≠ (Value.slice po k co).ownBlock := fun e => by have := (X.own.lt _ e.symm).1; omega
      have hGHr : some w.heap.size ≠ (Value.slice po k co).ownBlock := fun e => by have := (X.own.lt _ e.symm).1; omega
      have hsz := X.sz
      clear X
      go_wp2_with (first | (at_builtin; refine wpList_append_own_at _ rfl (.tmp 47) (.tmp 48) 80 rfl (w.heap.size + 1) 21 i2 (.int .i32 0) 1 4 Tryz.underlying80 hi2 hy0 hy1 hy2 rfl (by decide) (.slice po k co) k (List.replicate k (.int .i32 0)) rfl (HOWN.out.alloc _) ⟨wr.heap.size, 0, none⟩ 1 1 [.int .i32 0] rfl (by simp) nb (by simp [Value.oneCell']) (by unfold maxLen; omega) (by omega) (by simp; omega) ?_) | go_in)
      intro v' w5 hown hgrow hiff hblk
      have bA := one_alloc wr (.cells #[.int .i32 0] 21)
      have hsA : (wr.alloc (.cells #[.int .i32 0] 21)).heap.size = wr.heap.size + 1 := by simp
      have eIX : w5.heap[IX]? = wr.heap[IX]? := (hgrow.block IX (by omega) hIXr).trans (bA.block IX (by omega))
      have eGH : w5.heap[w.heap.size]? = wr.heap[w.heap.size]? := (hgrow.block w.heap.size (by omega) hGHr).trans (bA.block w.heap.size (by omega))
      have z2 := (World.cell?_of_block (a := ⟨IX, 2, none⟩) eIX).trans y2
      have fz5 : ∀ o, w5.frozen? ⟨IX, o, none⟩ = false := fun o => (World.frozen?_of_block (a := ⟨IX, o, none⟩) eIX).trans (fx o)
      obtain ⟨p', c', rfl⟩ := own_shape hown
      have HG := hideIt (And.intro hown (And.intro hgrow (And.intro bA (And.intro eIX eGH))))
      clear hown hgrow hiff hblk bA eIX eGH nb y2 fx
      go_wp2
      go_roundg (R - (k + 1))
      case measure => omega
      case rel =>
        obtain ⟨hown, hgrow, bA, eIX, eGH⟩ := HG.out
        have X := HX.out
        rw [← List.replicate_succ'] at hown
        have hgs := hgrow.size
        refine ⟨k + 1, by omega, _, ⟨(World.cell?_setCell_other _ _ _ _ (by simp)).trans ((World.cell?_of_block (a := ⟨IX, 0, none⟩) eIX).trans X.c0), ?_, World.cell?_setCell_same _ _ _ z2, ?_, fun j hj => ?_, fun o => (World.frozen?_setCell _ _ _ _).trans (fz5 o), fun o => ?_, own_one hown (fun q hq => far_set (fun e => by have := (hown.lt q hq).1; omega)), ?_, ?_⟩⟩
        · exact (World.cell?_setCell_other _ _ _ _ (by simp)).trans ((World.cell?_of_block (a := ⟨IX, 1, none⟩) eIX).trans X.c1)
        · exact (World.cell?_setCell_other _ _ _ _ (by simp)).trans ((World.cell?_of_block (a := ⟨IX, 3, none⟩) eIX).trans X.c3)
        · exact (World.cell?_setCell_other _ _ _ _ (by simp <;> omega)).trans ((World.cell?_of_block (a := ⟨w.heap.size, j, none⟩) eGH).trans (X.h j hj))
        · exact (World.frozen?_setCell _ _ _ _).trans ((World.frozen?_of_block (a := ⟨w.heap.size, o, none⟩) eGH).trans (X.fh o))
        · refine Wr.set ⟨hgrow.os.trans (bA.os.trans X.W.os), hgrow.tape.trans (bA.tape.trans X.W.tape), hgrow.output.trans (bA.output.trans X.W.output), by have := X.W.size; omega, fun q h1 h2 => (hgrow.block q (by have := X.W.size; omega) (fun e => by have := (X.own.lt q e.symm).1; omega)).trans ((bA.block q (by have := X.W.size; omega)).trans (X.W.block q h1 h2))⟩
        · simp
          omega
    · have hkR' : k = R := by omega
      subst hkR'
      have hlt : ¬ ((k : Int) < (k : Int)) := by omega
      obtain ⟨go, co', hgo, hco, hgo1, hgo2, hgc, hgf⟩ := own_full X.own hR0
      obtain ⟨rfl, _, rfl⟩ : po = some ⟨go, 0, none⟩ ∧ True ∧ co = co' := by
        simp only [Value.slice.injEq] at hgo
        exact ⟨hgo.1, trivial, hgo.2.2⟩
      have hszr := X.sz
      have XW : IxW wr IX w.heap.size go co k 0 (fun _ => 0) (fun _ => 0) := ⟨X.c1, X.c2, X.c3, X.h, fun j hj => by have := hgc j (by omega); rw [List.getElem?_replicate, if_pos hj] at this; exact this, hco, X.fx, X.fh, hgf, ⟨by omega, by omega, by omega⟩⟩
      obtain ⟨gh, hgh⟩ : ∃ gh, w.heap.size = gh := ⟨_, rfl⟩
      have hgh1 : w.heap.size ≤ gh := by omega
      have y1 := y1
      rw [hgh] at XW y1
      have HGH := hideIt hgh
      clear hgh
      have HXW := hideIt XW
      have HWr := hideIt (And.intro X.W X.c0)
      clear X XW HX hgo hgc hgf fx
      go_wp2_with fail
      go_loopg [] k (fun gg wr => ∃ i : Nat, i + gg = k ∧ ∃ hd ol, IxW wr IX gh go co k i hd ol ∧ Idx 16 i hd ol (bkF d s.A cf n) ∧ Wr IX w wr ∧ wr.cell? ⟨IX, 0, none⟩ = w.cell? ⟨IX, 0, none⟩)
      case atStart => exact ⟨0, by omega, _, _, HXW.out, Idx.new _ _ _, HWr.out⟩
      case round =>
        clear y1 y2 y3 HXW HWr
        obtain ⟨i, hi, hd, ol, X, P, W, eI0⟩ := hrel
        have c1 := X.c1
        have c2 := X.c2
        have c3 := X.c3
        obtain ⟨HI, H, hdd, hcf, val⟩ := HQ.out
        obtain ⟨ne1, ne2, ne3⟩ := HNE.out
        have HI' : IxC wr IX gc cc n cf := HI.keep eI0 (W.block gc hgc ne2)
        by_cases hik : i < k
        · have hlt : (i : Int) < (k : Int) := by omega
          have hhs := hashOf_any HI' (H.blk (W.block b H.lt ne1)) (hdd.blk (fun q hq hl => W.block q hl (fun e => ne3 (e ▸ hq)))) (row := i) (by omega) hcf a0 a1 r1 val hn
          have hm0 := mask_of (N := 16) ⟨4, rfl, by omega⟩ (x := hashN (keyR d s.A cf i) n) (by have := hashR_rng (keyR d s.A cf i) n; have := hashN_cast (keyR d s.A cf i) n; omega)
          rw [hashN_cast] at hm0
          have hxl : hashN (keyR d s.A cf i) n % 16 < 16 := Nat.mod_lt _ (by omega)
          obtain ⟨hv, HHV⟩ : ∃ hv, Hid (hashR (keyR d s.A cf i) n = hv) := ⟨_, hideIt rfl⟩
          rw [HHV.out] at hhs hm0
          obtain ⟨x, HX0⟩ : ∃ x, Hid (bkF d s.A cf n i = x) := ⟨_, hideIt rfl⟩
          have hx00 : hashN (keyR d s.A cf i) n % 16 = x := HX0.out
          rw [hx00] at hm0 hxl
          clear hx00
          have hm0' : bits .and .u64 hv 15 = (x : Int) := hm0
          have x0 : (0 : Int) ≤ x := by omega
          have x1 : (x : Int) < 16 := by omega
          have i0 : (0 : Int) ≤ i := by omega
          have ch := X.h x hxl
          obtain ⟨hx, HHX⟩ : ∃ hx, Hid (hd x = hx) := ⟨_, hideIt rfl⟩
          rw [HHX.out] at ch
          have co1 := X.o i hik
          have fo := X.fo
          have hneg : IX ≠ go ∧ gh ≠ go ∧ IX ≠ gh := ⟨X.ne.2.1, X.ne.2.2, X.ne.1⟩
          obtain ⟨hng1, hng2, hng3⟩ := hneg
          have X' := X.keep (w' := World.drew wr) rfl rfl rfl
          have X1 := X'.put_ol (j := i) (x := hx) hik
          have d1 := X1.c1
          have d3 := X1.c3
          have dh := X1.h x hxl
          have fh := X.fh
          have hwi : IntKind.i64.wrap ((i : Int) + 1) = (i : Int) + 1 := by rw [IntKind.wrap_i64]; omega
          have hwi2 : IntKind.i32.wrap ((i : Int) + 1) = (i : Int) + 1 := by rw [IntKind.wrap_i32]; omega
          have X1' := X1.keep (w' := World.drew ((World.drew wr).setCell ⟨go, i, none⟩ (.int .i32 (hx : Int)))) rfl rfl rfl
          have X2 := X1'.put_hd (b := x) (x := i + 1) hxl
          have e3 := X2.c3
          have fx := X.fx
          have HXX := hideIt (And.intro X2 (And.intro P (And.intro W eI0)))
          have hw15 : IntKind.u64.wrap 15 = 15 := rfl
          clear X P W HI H hdd hcf val ne1 ne2 ne3 eI0 HI' hm0 X1 X2 X' X1'
          go_wp2_with fail
          refine hhs.mono ?_
          rintro e w2 ⟨rfl, hw2⟩
          rw [hw2]
          clear hw2 hhs
          go_upto_region 13 with fail
          refine wp_region_l (l := 16) (S := (fun w' => w'.cell? ⟨IX, 2, none⟩ = some (.slice (some ⟨go, 0, none⟩) k co) ∧ w'.cell? ⟨IX, 3, none⟩ = some (.int .i64 (i : Int)) ∧ w'.cell? ⟨IX, 1, none⟩ = some (.slice (some ⟨gh, 0, none⟩) 16 16) ∧ w'.cell? ⟨gh, x, none⟩ = some (.int .i32 (hx : Int)))) (by kernel_rfl) ⟨c2, c3, c1, ch⟩ (fun hHeld => ?_)
          refine AnyL.take2 (i := 0) (oi := { dst := some 81, op := Go.Op.move (Go.Operand.tmp 0), type := 188, pos := _, after := #[], guard := none }) (v := ?vv31017) (by kernel_rfl) (by kernel_rfl) rfl (by kernel_rfl) (by kernel_rfl) (by kernel_rfl) (fun _ _ _ h => h) (Or.inl ⟨by rfl, ?hy31017⟩) (by assumption) ?tk31017
          case hy31017 => (intro w hSw; (try dsimp only at hSw); go_simp; (try with_reducible rfl))
          try simp only [Act.put, List.setIfInBounds_toArray, List.set_cons_zero, List.set_cons_succ]
          refine AnyL.take2 (i := 1) (oi := { dst := some 82, op := Go.Op.nilCheck (Go.Operand.tmp 81), type := 0, pos := _, after := #[{ on := 0, ground := Go.Ground.data }], guard := none }) (v := ?vv31018) (by kernel_rfl) (by kernel_rfl) rfl (by kernel_rfl) (by kernel_rfl) (by kernel_rfl) (fun _ _ _ h => h) (Or.inl ⟨by rfl, ?hy31018⟩) (by assumption) ?tk31018
          case hy31018 => (intro w hSw; (try dsimp only at hSw); go_simp; (try with_reducible rfl))
          try simp only [Act.put, List.setIfInBounds_toArray, List.set_cons_zero, List.set_cons_succ]
          refine AnyL.take2 (i := 2) (oi := { dst := some 83, op := Go.Op.fieldAddr 225 (Go.Operand.tmp 82) 2, type := 0, pos := _, after := #[{ on := 1, ground := Go.Ground.data }], guard := none }) (v := ?vv31019) (by kernel_rfl) (by kernel_rfl) rfl (by kernel_rfl) (by kernel_rfl) (by kernel_rfl) (fun _ _ _ h => h) (Or.inl ⟨by rfl, ?hy31019⟩) (by assumption) ?tk31019
          case hy31019 => (intro w hSw; (try dsimp only at hSw); go_simp; (try with_reducible rfl))
          try simp only [Act.put, List.setIfInBounds_toArray, List.set_cons_zero, List.set_cons_succ]
          refine AnyL.take2 (i := 3) (oi := { dst := some 84, op := Go.Op.load 80 (Go.Operand.tmp 83), type := 80, pos := _, after := #[{ on := 2, ground := Go.Ground.data }], guard := none }) (v := ?vv31020) (by kernel_rfl) (by kernel_rfl) rfl (by kernel_rfl) (by kernel_rfl) (by kernel_rfl) (fun _ _ _ h => h) (Or.inl ⟨by rfl, ?hy31020⟩) (by assumption) ?tk31020
          case hy31020 => (intro w hSw; (try dsimp only at hSw); go_simp; (try with_reducible rfl))
          try simp only [Act.put, List.setIfInBounds_toArray, List.set_cons_zero, List.set_cons_succ]
          refine AnyL.take2 (i := 4) (oi := { dst := some 85, op := Go.Op.move (Go.Operand.tmp 0), type := 188, pos := _, after := #[], guard := none }) (v := ?vv31021) (by kernel_rfl) (by kernel_rfl) rfl (by kernel_rfl) (by kernel_rfl) (by kernel_rfl) (fun _ _ _ h => h) (Or.inl ⟨by rfl, ?hy31021⟩) (by assumption) ?tk31021
          case hy31021 => (intro w hSw; (try dsimp only at hSw); go_simp; (try with_reducible rfl))
          try simp only [Act.put, List.setIfInBounds_toArray, List.set_cons_zero, List.set_cons_succ]
          refine AnyL.take2 (i := 5) (oi := { dst := some 86, op := Go.Op.nilCheck (Go.Operand.tmp 85), type := 0, pos := _, after := #[{ on := 4, ground := Go.Ground.data }], guard := none }) (v := ?vv31022) (by kernel_rfl) (by kernel_rfl) rfl (by kernel_rfl) (by kernel_rfl) (by kernel_rfl) (fun _ _ _ h => h) (Or.inl ⟨by rfl, ?hy31022⟩) (by assumption) ?tk31022
          case hy31022 => (intro w hSw; (try dsimp only at hSw); go_simp; (try with_reducible rfl))
          try simp only [Act.put, List.setIfInBounds_toArray, List.set_cons_zero, List.set_cons_succ]
          refine AnyL.take2 (i := 6) (oi := { dst := some 87, op := Go.Op.fieldAddr 225 (Go.Operand.tmp 86) 3, type := 0, pos := _, after := #[{ on := 5, ground := Go.Ground.data }], guard := none }) (v := ?vv31023) (by kernel_rfl) (by kernel_rfl) rfl (by kernel_rfl) (by kernel_rfl) (by kernel_rfl) (fun _ _ _ h => h) (Or.inl ⟨by rfl, ?hy31023⟩) (by assumption) ?tk31023
          case hy31023 => (intro w hSw; (try dsimp only at hSw); go_simp; (try with_reducible rfl))
          try simp only [Act.put, List.setIfInBounds_toArray, List.set_cons_zero, List.set_cons_succ]
          refine AnyL.take2 (i := 7) (oi := { dst := some 88, op := Go.Op.load 3 (Go.Operand.tmp 87), type := 3, pos := _, after := #[{ on := 6, ground := Go.Ground.data }], guard := none }) (v := ?vv31024) (by kernel_rfl) (by kernel_rfl) rfl (by kernel_rfl) (by kernel_rfl) (by kernel_rfl) (fun _ _ _ h => h) (Or.inl ⟨by rfl, ?hy31024⟩) (by assumption) ?tk31024
          case hy31024 => (intro w hSw; (try dsimp only at hSw); go_simp; (try with_reducible rfl))
          try simp only [Act.put, List.setIfInBounds_toArray, List.set_cons_zero, List.set_cons_succ]
          refine AnyL.take2 (i := 8) (oi := { dst := some 89, op := Go.Op.move (Go.Operand.tmp 0), type := 188, pos := _, after := #[], guard := none }) (v := ?vv31025) (by kernel_rfl) (by kernel_rfl) rfl (by kernel_rfl) (by kernel_rfl) (by kernel_rfl) (fun _ _ _ h => h) (Or.inl ⟨by rfl, ?hy31025⟩) (by assumption) ?tk31025
          case hy31025 => (intro w hSw; (try dsimp only at hSw); go_simp; (try with_reducible rfl))
          try simp only [Act.put, List.setIfInBounds_toArray, List.set_cons_zero, List.set_cons_succ]
          refine AnyL.take2 (i := 9) (oi := { dst := some 90, op := Go.Op.nilCheck (Go.Operand.tmp 89), type := 0, pos := _, after := #[{ on := 8, ground := Go.Ground.data }], guard := none }) (v := ?vv31026) (by kernel_rfl) (by kernel_rfl) rfl (by kernel_rfl) (by kernel_rfl) (by kernel_rfl) (fun _ _ _ h => h) (Or.inl ⟨by rfl, ?hy31026⟩) (by assumption) ?tk31026
          case hy31026 => (intro w hSw; (try dsimp only at hSw); go_simp; (try with_reducible rfl))
          try simp only [Act.put, List.setIfInBounds_toArray, List.set_cons_zero, List.set_cons_succ]
          refine AnyL.take2 (i := 10) (oi := { dst := some 91, op := Go.Op.fieldAddr 225 (Go.Operand.tmp 90) 1, type := 0, pos := _, after := #[{ on := 9, ground := Go.Ground.data }], guard := none }) (v := ?vv31027) (by kernel_rfl) (by kernel_rfl) rfl (by kernel_rfl) (by kernel_rfl) (by kernel_rfl) (fun _ _ _ h => h) (Or.inl ⟨by rfl, ?hy31027⟩) (by assumption) ?tk31027
          case hy31027 => (intro w hSw; (try dsimp only at hSw); go_simp; (try with_reducible rfl))
          try simp only [Act.put, List.setIfInBounds_toArray, List.set_cons_zero, List.set_cons_succ]
          refine AnyL.take2 (i := 11) (oi := { dst := some 92, op := Go.Op.load 80 (Go.Operand.tmp 91), type := 80, pos := _, after := #[{ on := 10, ground := Go.Ground.data }], guard := none }) (v := ?vv31028) (by kernel_rfl) (by kernel_rfl) rfl (by kernel_rfl) (by kernel_rfl) (by kernel_rfl) (fun _ _ _ h => h) (Or.inl ⟨by rfl, ?hy31028⟩) (by assumption) ?tk31028
          case hy31028 => (intro w hSw; (try dsimp only at hSw); go_simp; (try with_reducible rfl))
          try simp only [Act.put, List.setIfInBounds_toArray, List.set_cons_zero, List.set_cons_succ]
          refine AnyL.take2 (i := 12) (oi := { dst := some 93, op := Go.Op.move (Go.Operand.tmp 8), type := 28, pos := _, after := #[], guard := none }) (v := ?vv31029) (by kernel_rfl) (by kernel_rfl) rfl (by kernel_rfl) (by kernel_rfl) (by kernel_rfl) (fun _ _ _ h => h) (Or.inl ⟨by rfl, ?hy31029⟩) (by assumption) ?tk31029
          case hy31029 => (intro w hSw; (try dsimp only at hSw); go_simp; (try with_reducible rfl))
          try simp only [Act.put, List.setIfInBounds_toArray, List.set_cons_zero, List.set_cons_succ]
          refine AnyL.take2 (i := 13) (oi := { dst := some 94, op := Go.Op.indexAddr 80 (Go.Operand.tmp 92) (Go.Operand.tmp 93), type := 0, pos := _, after := #[{ on := 11, ground := Go.Ground.data }, { on := 12, ground := Go.Ground.data }], guard := none }) (v := ?vv31030) (by kernel_rfl) (by kernel_rfl) rfl (by kernel_rfl) (by kernel_rfl) (by kernel_rfl) (fun _ _ _ h => h) (Or.inl ⟨by rfl, ?hy31030⟩) (by assumption) ?tk31030
          case hy31030 => (intro w hSw; (try dsimp only at hSw); go_simp; (try with_reducible rfl))
          try simp only [Act.put, List.setIfInBounds_toArray, List.set_cons_zero, List.set_cons_succ]
          refine AnyL.take2 (i := 14) (oi := { dst := some 95, op := Go.Op.load 21 (Go.Operand.tmp 94), type := 21, pos := _, after := #[{ on := 13, ground := Go.Ground.data }], guard := none }) (v := ?vv31031) (by kernel_rfl) (by kernel_rfl) rfl (by kernel_rfl) (by kernel_rfl) (by kernel_rfl) (fun _ _ _ h => h) (Or.inl ⟨by rfl, ?hy31031⟩) (by assumption) ?tk31031
          case hy31031 => (intro w hSw; (try dsimp only at hSw); go_simp; (try with_reducible rfl))
          try simp only [Act.put, List.setIfInBounds_toArray, List.set_cons_zero, List.set_cons_succ]
          refine AnyL.take2 (i := 15) (oi := { dst := some 96, op := Go.Op.indexAddr 80 (Go.Operand.tmp 84) (Go.Operand.tmp 88), type := 0, pos := _, after := #[{ on := 3, ground := Go.Ground.data }, { on := 7, ground := Go.Ground.data }, { on := 0, ground := Go.Ground.phase }, { on := 1, ground := Go.Ground.phase }, { on := 2, ground := Go.Ground.phase }, { on := 3, ground := Go.Ground.phase }, { on := 4, ground := Go.Ground.phase }, { on := 5, ground := Go.Ground.phase }, { on := 6, ground := Go.Ground.phase }, { on := 7, ground := Go.Ground.phase }, { on := 8, ground := Go.Ground.phase }, { on := 9, ground := Go.Ground.phase }, { on := 10, ground := Go.Ground.phase }, { on := 11, ground := Go.Ground.phase }, { on := 12, ground := Go.Ground.phase }, { on := 13, ground := Go.Ground.phase }, { on := 14, ground := Go.Ground.phase }], guard := none }) (v := ?vv31032) (by kernel_rfl) (by kernel_rfl) rfl (by kernel_rfl) (by kernel_rfl) (by kernel_rfl) (fun _ _ _ h => h) (Or.inl ⟨by rfl, ?hy31032⟩) (by assumption) ?tk31032
          case hy31032 => (intro w hSw; (try dsimp only at hSw); go_simp; (try with_reducible rfl))
          try simp only [Act.put, List.setIfInBounds_toArray, List.set_cons_zero, List.set_cons_succ]
          refine AnyL.last (o := { dst := none, op := Go.Op.store 21 (Go.Operand.tmp 96) (Go.Operand.tmp 95), type := 0, pos := _, after := #[{ on := 15, ground := Go.Ground.data }, { on := 14, ground := Go.Ground.data }, { on := 0, ground := Go.Ground.phase }, { on := 1, ground := Go.Ground.phase }, { on := 2, ground := Go.Ground.phase }, { on := 3, ground := Go.Ground.phase }, { on := 4, ground := Go.Ground.phase }, { on := 5, ground := Go.Ground.phase }, { on := 6, ground := Go.Ground.phase }, { on := 7, ground := Go.Ground.phase }, { on := 8, ground := Go.Ground.phase }, { on := 9, ground := Go.Ground.phase }, { on := 10, ground := Go.Ground.phase }, { on := 11, ground := Go.Ground.phase }, { on := 12, ground := Go.Ground.phase }, { on := 13, ground := Go.Ground.phase }, { on := 14, ground := Go.Ground.phase }], guard := none }) (by kernel_rfl) rfl (by kernel_rfl) (fun K' hK' => ?_)
          go_simp
          clear hHeld
          refine hK'.out _ _ ?_
          clear hK' K'
          try simp only [Act.put, List.setIfInBounds_toArray, List.set_cons_zero, List.set_cons_succ]
          go_upto_region 14 with fail
          refine wp_region_l (l := 12) (S := (fun w' => w'.cell? ⟨IX, 1, none⟩ = some (.slice (some ⟨gh, 0, none⟩) 16 16) ∧ w'.cell? ⟨IX, 3, none⟩ = some (.int .i64 (i : Int)))) (by kernel_rfl) ⟨d1, d3⟩ (fun hHeld => ?_)
          refine AnyL.take2 (i := 0) (oi := { dst := some 97, op := Go.Op.move (Go.Operand.tmp 0), type := 188, pos := _, after := #[], guard := none }) (v := ?vv31033) (by kernel_rfl) (by kernel_rfl) rfl (by kernel_rfl) (by kernel_rfl) (by kernel_rfl) (fun _ _ _ h => h) (Or.inl ⟨by rfl, ?hy31033⟩) (by assumption) ?tk31033
          case hy31033 => (intro w hSw; (try dsimp only at hSw); go_simp; (try with_reducible rfl))
          try simp only [Act.put, List.setIfInBounds_toArray, List.set_cons_zero, List.set_cons_succ]
          refine AnyL.take2 (i := 1) (oi := { dst := some 98, op := Go.Op.nilCheck (Go.Operand.tmp 97), type := 0, pos := _, after := #[{ on := 0, ground := Go.Ground.data }], guard := none }) (v := ?vv31034) (by kernel_rfl) (by kernel_rfl) rfl (by kernel_rfl) (by kernel_rfl) (by kernel_rfl) (fun _ _ _ h => h) (Or.inl ⟨by rfl, ?hy31034⟩) (by assumption) ?tk31034
          case hy31034 => (intro w hSw; (try dsimp only at hSw); go_simp; (try with_reducible rfl))
          try simp only [Act.put, List.setIfInBounds_toArray, List.set_cons_zero, List.set_cons_succ]
          refine AnyL.take2 (i := 2) (oi := { dst := some 99, op := Go.Op.fieldAddr 225 (Go.Operand.tmp 98) 1, type := 0, pos := _, after := #[{ on := 1, ground := Go.Ground.data }], guard := none }) (v := ?vv31035) (by kernel_rfl) (by kernel_rfl) rfl (by kernel_rfl) (by kernel_rfl) (by kernel_rfl) (fun _ _ _ h => h) (Or.inl ⟨by rfl, ?hy31035⟩) (by assumption) ?tk31035
          case hy31035 => (intro w hSw; (try dsimp only at hSw); go_simp; (try with_reducible rfl))
          try simp only [Act.put, List.setIfInBounds_toArray, List.set_cons_zero, List.set_cons_succ]
          refine AnyL.take2 (i := 3) (oi := { dst := some 100, op := Go.Op.load 80 (Go.Operand.tmp 99), type := 80, pos := _, after := #[{ on := 2, ground := Go.Ground.data }], guard := none }) (v := ?vv31036) (by kernel_rfl) (by kernel_rfl) rfl (by kernel_rfl) (by kernel_rfl) (by kernel_rfl) (fun _ _ _ h => h) (Or.inl ⟨by rfl, ?hy31036⟩) (by assumption) ?tk31036
          case hy31036 => (intro w hSw; (try dsimp only at hSw); go_simp; (try with_reducible rfl))
          try simp only [Act.put, List.setIfInBounds_toArray, List.set_cons_zero, List.set_cons_succ]
          refine AnyL.take2 (i := 4) (oi := { dst := some 101, op := Go.Op.move (Go.Operand.tmp 8), type := 28, pos := _, after := #[], guard := none }) (v := ?vv31037) (by kernel_rfl) (by kernel_rfl) rfl (by kernel_rfl) (by kernel_rfl) (by kernel_rfl) (fun _ _ _ h => h) (Or.inl ⟨by rfl, ?hy31037⟩) (by assumption) ?tk31037
          case hy31037 => (intro w hSw; (try dsimp only at hSw); go_simp; (try with_reducible rfl))
          try simp only [Act.put, List.setIfInBounds_toArray, List.set_cons_zero, List.set_cons_succ]
          refine AnyL.take2 (i := 5) (oi := { dst := some 102, op := Go.Op.move (Go.Operand.tmp 0), type := 188, pos := _, after := #[], guard := none }) (v := ?vv31038) (by kernel_rfl) (by kernel_rfl) rfl (by kernel_rfl) (by kernel_rfl) (by kernel_rfl) (fun _ _ _ h => h) (Or.inl ⟨by rfl, ?hy31038⟩) (by assumption) ?tk31038
          case hy31038 => (intro w hSw; (try dsimp only at hSw); go_simp; (try with_reducible rfl))
          try simp only [Act.put, List.setIfInBounds_toArray, List.set_cons_zero, List.set_cons_succ]
          refine AnyL.take2 (i := 6) (oi := { dst := some 103, op := Go.Op.nilCheck (Go.Operand.tmp 102), type := 0, pos := _, after := #[{ on := 5, ground := Go.Ground.data }], guard := none }) (v := ?vv31039) (by kernel_rfl) (by kernel_rfl) rfl (by kernel_rfl) (by kernel_rfl) (by kernel_rfl) (fun _ _ _ h => h) (Or.inl ⟨by rfl, ?hy31039⟩) (by assumption) ?tk31039
          case hy31039 => (intro w hSw; (try dsimp only at hSw); go_simp; (try with_reducible rfl))
          try simp only [Act.put, List.setIfInBounds_toArray, List.set_cons_zero, List.set_cons_succ]
          refine AnyL.take2 (i := 7) (oi := { dst := some 104, op := Go.Op.fieldAddr 225 (Go.Operand.tmp 103) 3, type := 0, pos := _, after := #[{ on := 6, ground := Go.Ground.data }], guard := none }) (v := ?vv31040) (by kernel_rfl) (by kernel_rfl) rfl (by kernel_rfl) (by kernel_rfl) (by kernel_rfl) (fun _ _ _ h => h) (Or.inl ⟨by rfl, ?hy31040⟩) (by assumption) ?tk31040
          case hy31040 => (intro w hSw; (try dsimp only at hSw); go_simp; (try with_reducible rfl))
          try simp only [Act.put, List.setIfInBounds_toArray, List.set_cons_zero, List.set_cons_succ]
          refine AnyL.take2 (i := 8) (oi := { dst := some 105, op := Go.Op.load 3 (Go.Operand.tmp 104), type := 3, pos := _, after := #[{ on := 7, ground := Go.Ground.data }], guard := none }) (v := ?vv31041) (by kernel_rfl) (by kernel_rfl) rfl (by kernel_rfl) (by kernel_rfl) (by kernel_rfl) (fun _ _ _ h => h) (Or.inl ⟨by rfl, ?hy31041⟩) (by assumption) ?tk31041
          case hy31041 => (intro w hSw; (try dsimp only at hSw); go_simp; (try with_reducible rfl))
          try simp only [Act.put, List.setIfInBounds_toArray, List.set_cons_zero, List.set_cons_succ]
          refine AnyL.take2 (i := 9) (oi := { dst := some 106, op := Go.Op.binOp Go.BinOp.add 3 (Go.Operand.tmp 105) (Go.Operand.const (Go.Value.int Go.IntKind.i64 1)) 3, type := 3, pos := _, after := #[{ on := 8, ground := Go.Ground.data }], guard := none }) (v := ?vv31042) (by kernel_rfl) (by kernel_rfl) rfl (by kernel_rfl) (by kernel_rfl) (by kernel_rfl) (fun _ _ _ h => h) (Or.inl ⟨by rfl, ?hy31042⟩) (by assumption) ?tk31042
          case hy31042 => (intro w hSw; (try dsimp only at hSw); go_simp; (try with_reducible rfl))
          try simp only [Act.put, List.setIfInBounds_toArray, List.set_cons_zero, List.set_cons_succ]
          refine AnyL.take2 (i := 10) (oi := { dst := some 107, op := Go.Op.convert 3 21 (Go.Operand.tmp 106), type := 21, pos := _, after := #[{ on := 9, ground := Go.Ground.data }], guard := none }) (v := ?vv31043) (by kernel_rfl) (by kernel_rfl) rfl (by kernel_rfl) (by kernel_rfl) (by kernel_rfl) (fun _ _ _ h => h) (Or.inl ⟨by rfl, ?hy31043⟩) (by assumption) ?tk31043
          case hy31043 => (intro w hSw; (try dsimp only at hSw); go_simp; (try with_reducible rfl))
          try simp only [Act.put, List.setIfInBounds_toArray, List.set_cons_zero, List.set_cons_succ]
          refine AnyL.take2 (i := 11) (oi := { dst := some 108, op := Go.Op.indexAddr 80 (Go.Operand.tmp 100) (Go.Operand.tmp 101), type := 0, pos := _, after := #[{ on := 3, ground := Go.Ground.data }, { on := 4, ground := Go.Ground.data }, { on := 0, ground := Go.Ground.phase }, { on := 1, ground := Go.Ground.phase }, { on := 2, ground := Go.Ground.phase }, { on := 3, ground := Go.Ground.phase }, { on := 4, ground := Go.Ground.phase }, { on := 5, ground := Go.Ground.phase }, { on := 6, ground := Go.Ground.phase }, { on := 7, ground := Go.Ground.phase }, { on := 8, ground := Go.Ground.phase }, { on := 9, ground := Go.Ground.phase }, { on := 10, ground := Go.Ground.phase }], guard := none }) (v := ?vv31044) (by kernel_rfl) (by kernel_rfl) rfl (by kernel_rfl) (by kernel_rfl) (by kernel_rfl) (fun _ _ _ h => h) (Or.inl ⟨by rfl, ?hy31044⟩) (by assumption) ?tk31044
          case hy31044 => (intro w hSw; (try dsimp only at hSw); go_simp; (try with_reducible rfl))
          try simp only [Act.put, List.setIfInBounds_toArray, List.set_cons_zero, List.set_cons_succ]
          refine AnyL.last (o := { dst := none, op := Go.Op.store 21 (Go.Operand.tmp 108) (Go.Operand.tmp 107), type := 0, pos := _, after := #[{ on := 11, ground := Go.Ground.data }, { on := 10, ground := Go.Ground.data }, { on := 0, ground := Go.Ground.phase }, { on := 1, ground := Go.Ground.phase }, { on := 2, ground := Go.Ground.phase }, { on := 3, ground := Go.Ground.phase }, { on := 4, ground := Go.Ground.phase }, { on := 5, ground := Go.Ground.phase }, { on := 6, ground := Go.Ground.phase }, { on := 7, ground := Go.Ground.phase }, { on := 8, ground := Go.Ground.phase }, { on := 9, ground := Go.Ground.phase }, { on := 10, ground := Go.Ground.phase }], guard := none }) (by kernel_rfl) rfl (by kernel_rfl) (fun K' hK' => ?_)
          go_simp
          clear hHeld
          refine hK'.out _ _ ?_
          clear hK' K'
          try simp only [Act.put, List.setIfInBounds_toArray, List.set_cons_zero, List.set_cons_succ]
          go_wp2
          go_roundg (k - (i + 1))
          case measure => omega
          case rel =>
            obtain ⟨X2, P, W, eI0⟩ := HXX.out
            have hb : bkF d s.A cf n i < 16 := by rw [HX0.out]; exact hxl
            have P2 := P.put hb
            rw [HX0.out, HHX.out] at P2
            refine ⟨i + 1, by omega, _, _, X2.put_k (i + 1), P2, ?_, ?_⟩
            · exact (((W.drew).other (by omega)).drew.other (by omega)).set
            · exact (World.cell?_setCell_other _ _ _ _ (by simp)).trans ((World.cell?_of_block (a := ⟨IX, 0, none⟩) ((far_set hng3).trans (far_set hng1))).trans eI0)
        · have hik' : k = i := by omega
          subst hik'
          have hlt : ¬ ((k : Int) < (k : Int)) := by omega
          have HXX := hideIt (And.intro X (And.intro P (And.intro HI' W)))
          clear X P W HI H hdd hcf val ne1 ne2 ne3 eI0 HI'
          go_wp2
          go_end0
          obtain ⟨X, P, HI', W⟩ := HXX.out
          exact ⟨rfl, ⟨_, _, _, _, _, X, P, hgh1, by omega⟩, HI', W⟩
end Go.Proofs.Qxb6500880aGreat
