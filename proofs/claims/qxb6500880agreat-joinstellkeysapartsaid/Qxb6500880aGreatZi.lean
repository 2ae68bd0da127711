import Derived.Deep.CutBlock
import Derived.OwnWalk
import Derived.Maps.AppendAt
import Derived.Maps.OwnSet
import Derived.Maps.OwnOps
import Derived.Laws.ResultCell
import Derived.Test.Qxb6500880aGreatZj
set_option linter.unusedVariables false
set_option linter.unusedSimpArgs false
namespace Go.Proofs.Qxb6500880aGreat
open Go.RowKit

set_option maxRecDepth 20000 in
set_option maxHeartbeats 8000000 in
theorem ripe_any {w : World} {RB : Nat} (fv pv : Value) (h : w.cell? ⟨RB, 5, none⟩ = some (.slice none 0 0)) :
    Calls Tryz.prog 58 #[.pointer (some ⟨RB, 0, none⟩), fv, pv] w fun e w' => e = .returned (.slice none 0 0) ∧ w' = w := by
  go_enter Tryz.func58, Tryz.ntmps58
  go_wp2_with fail
  go_loopg [14, 7] 0 (fun gg v u wx => v = .int .i64 0 ∧ u = .slice none 0 0 ∧ wx = w)
  case atStart => exact ⟨rfl, rfl, rfl⟩
  case round =>
    obtain ⟨rfl, rfl, rfl⟩ := hrel
    go_wp2
    go_ret
    exact ⟨rfl, rfl⟩
set_option maxRecDepth 20000 in
set_option maxHeartbeats 8000000 in
theorem window_any {w : World} (pv rv : Value) (j : Nat) :
    Calls Tryz.prog 61 #[pv, rv, .int .i64 (j : Int), .int .i64 (-1)] w fun e w' => e = .returned (.int .u8 0) ∧ w' = w.drew := by
  go_enter Tryz.func61, Tryz.ntmps61
  go_upto_region 1 with fail
  refine wp_region_held_drew (S := (fun w' => ∀ (_ : Nat), True)) (by kernel_rfl) (fun _ => trivial) (fun hHeld => ?_)
  refine wpAnyH_take (i := 0) (oi := { dst := some 10, op := Go.Op.move (Go.Operand.tmp 3), type := 3, pos := _, after := #[], guard := none }) (v := ?vv22001) rfl (by kernel_rfl) (by kernel_rfl) (by kernel_rfl) (fun _ _ _ h => h) (Or.inl ⟨by rfl, ?hy22001⟩) (by assumption) ?tk22001
  case hy22001 => (intro w hSw; (try dsimp only at hSw); go_simp; (try with_reducible rfl))
  try simp only [Act.put, List.setIfInBounds_toArray, List.set_cons_zero, List.set_cons_succ]
  refine wpAnyH_take (i := 1) (oi := { dst := some 11, op := Go.Op.binOp Go.BinOp.eql 3 (Go.Operand.tmp 10) (Go.Operand.const (Go.Value.int Go.IntKind.i64 (-1))) 3, type := 4, pos := _, after := #[{ on := 0, ground := Go.Ground.data }], guard := none }) (v := ?vv22002) rfl (by kernel_rfl) (by kernel_rfl) (by kernel_rfl) (fun _ _ _ h => h) (Or.inl ⟨by rfl, ?hy22002⟩) (by assumption) ?tk22002
  case hy22002 => (intro w hSw; (try dsimp only at hSw); go_simp; (try with_reducible rfl))
  try simp only [Act.put, List.setIfInBounds_toArray, List.set_cons_zero, List.set_cons_succ]
  refine wpAnyH_take (i := 2) (oi := { dst := some 12, op := Go.Op.move (Go.Operand.tmp 11), type := 4, pos := _, after := #[{ on := 1, ground := Go.Ground.data }], guard := none }) (v := ?vv22003) rfl (by kernel_rfl) (by kernel_rfl) (by kernel_rfl) (fun _ _ _ h => h) (Or.inl ⟨by rfl, ?hy22003⟩) (by assumption) ?tk22003
  case hy22003 => (intro w hSw; (try dsimp only at hSw); go_simp; (try with_reducible rfl))
  try simp only [Act.put, List.setIfInBounds_toArray, List.set_cons_zero, List.set_cons_succ]
  refine wpAnyH_take (i := 3) (oi := { dst := some 13, op := Go.Op.move (Go.Operand.tmp 0), type := 162, pos := _, after := #[{ on := 2, ground := Go.Ground.guard }], guard := some (2, false) }) (v := undef) rfl (by kernel_rfl) (by kernel_rfl) (by kernel_rfl) (fun _ _ _ h => h) (Or.inr ⟨by rfl, rfl⟩) (by assumption) ?tk22004
  try simp only [Act.put, List.setIfInBounds_toArray, List.set_cons_zero, List.set_cons_succ]
  refine wpAnyH_take (i := 4) (oi := { dst := some 14, op := Go.Op.nilCheck (Go.Operand.tmp 13), type := 0, pos := _, after := #[{ on := 3, ground := Go.Ground.data }, { on := 2, ground := Go.Ground.guard }], guard := some (2, false) }) (v := undef) rfl (by kernel_rfl) (by kernel_rfl) (by kernel_rfl) (fun _ _ _ h => h) (Or.inr ⟨by rfl, rfl⟩) (by assumption) ?tk22005
  try simp only [Act.put, List.setIfInBounds_toArray, List.set_cons_zero, List.set_cons_succ]
  refine wpAnyH_take (i := 5) (oi := { dst := some 15, op := Go.Op.fieldAddr 165 (Go.Operand.tmp 14) 1, type := 0, pos := _, after := #[{ on := 4, ground := Go.Ground.data }, { on := 2, ground := Go.Ground.guard }], guard := some (2, false) }) (v := undef) rfl (by kernel_rfl) (by kernel_rfl) (by kernel_rfl) (fun _ _ _ h => h) (Or.inr ⟨by rfl, rfl⟩) (by assumption) ?tk22006
  try simp only [Act.put, List.setIfInBounds_toArray, List.set_cons_zero, List.set_cons_succ]
  refine wpAnyH_take (i := 6) (oi := { dst := some 16, op := Go.Op.load 163 (Go.Operand.tmp 15), type := 163, pos := _, after := #[{ on := 5, ground := Go.Ground.data }, { on := 2, ground := Go.Ground.guard }], guard := some (2, false) }) (v := undef) rfl (by kernel_rfl) (by kernel_rfl) (by kernel_rfl) (fun _ _ _ h => h) (Or.inr ⟨by rfl, rfl⟩) (by assumption) ?tk22007
  try simp only [Act.put, List.setIfInBounds_toArray, List.set_cons_zero, List.set_cons_succ]
  refine wpAnyH_take (i := 7) (oi := { dst := some 17, op := Go.Op.move (Go.Operand.tmp 1), type := 92, pos := _, after := #[{ on := 2, ground := Go.Ground.guard }], guard := some (2, false) }) (v := undef) rfl (by kernel_rfl) (by kernel_rfl) (by kernel_rfl) (fun _ _ _ h => h) (Or.inr ⟨by rfl, rfl⟩) (by assumption) ?tk22008
  try simp only [Act.put, List.setIfInBounds_toArray, List.set_cons_zero, List.set_cons_succ]
  refine wpAnyH_take (i := 8) (oi := { dst := some 18, op := Go.Op.nilCheck (Go.Operand.tmp 17), type := 0, pos := _, after := #[{ on := 7, ground := Go.Ground.data }, { on := 2, ground := Go.Ground.guard }], guard := some (2, false) }) (v := undef) rfl (by kernel_rfl) (by kernel_rfl) (by kernel_rfl) (fun _ _ _ h => h) (Or.inr ⟨by rfl, rfl⟩) (by assumption) ?tk22009
  try simp only [Act.put, List.setIfInBounds_toArray, List.set_cons_zero, List.set_cons_succ]
  refine wpAnyH_take (i := 9) (oi := { dst := some 19, op := Go.Op.fieldAddr 106 (Go.Operand.tmp 18) 2, type := 0, pos := _, after := #[{ on := 8, ground := Go.Ground.data }, { on := 2, ground := Go.Ground.guard }], guard := some (2, false) }) (v := undef) rfl (by kernel_rfl) (by kernel_rfl) (by kernel_rfl) (fun _ _ _ h => h) (Or.inr ⟨by rfl, rfl⟩) (by assumption) ?tk22010
  try simp only [Act.put, List.setIfInBounds_toArray, List.set_cons_zero, List.set_cons_succ]
  refine wpAnyH_take (i := 10) (oi := { dst := some 20, op := Go.Op.load 103 (Go.Operand.tmp 19), type := 103, pos := _, after := #[{ on := 9, ground := Go.Ground.data }, { on := 2, ground := Go.Ground.guard }], guard := some (2, false) }) (v := undef) rfl (by kernel_rfl) (by kernel_rfl) (by kernel_rfl) (fun _ _ _ h => h) (Or.inr ⟨by rfl, rfl⟩) (by assumption) ?tk22011
  try simp only [Act.put, List.setIfInBounds_toArray, List.set_cons_zero, List.set_cons_succ]
  refine wpAnyH_take (i := 11) (oi := { dst := some 21, op := Go.Op.move (Go.Operand.tmp 2), type := 3, pos := _, after := #[{ on := 2, ground := Go.Ground.guard }], guard := some (2, false) }) (v := undef) rfl (by kernel_rfl) (by kernel_rfl) (by kernel_rfl) (fun _ _ _ h => h) (Or.inr ⟨by rfl, rfl⟩) (by assumption) ?tk22012
  try simp only [Act.put, List.setIfInBounds_toArray, List.set_cons_zero, List.set_cons_succ]
  refine wpAnyH_take (i := 12) (oi := { dst := some 22, op := Go.Op.indexAddr 103 (Go.Operand.tmp 20) (Go.Operand.tmp 21), type := 0, pos := _, after := #[{ on := 10, ground := Go.Ground.data }, { on := 11, ground := Go.Ground.data }, { on := 2, ground := Go.Ground.guard }], guard := some (2, false) }) (v := undef) rfl (by kernel_rfl) (by kernel_rfl) (by kernel_rfl) (fun _ _ _ h => h) (Or.inr ⟨by rfl, rfl⟩) (by assumption) ?tk22013
  try simp only [Act.put, List.setIfInBounds_toArray, List.set_cons_zero, List.set_cons_succ]
  refine wpAnyH_take (i := 13) (oi := { dst := some 23, op := Go.Op.fieldAddr 102 (Go.Operand.tmp 22) 0, type := 0, pos := _, after := #[{ on := 12, ground := Go.Ground.data }, { on := 2, ground := Go.Ground.guard }], guard := some (2, false) }) (v := undef) rfl (by kernel_rfl) (by kernel_rfl) (by kernel_rfl) (fun _ _ _ h => h) (Or.inr ⟨by rfl, rfl⟩) (by assumption) ?tk22014
  try simp only [Act.put, List.setIfInBounds_toArray, List.set_cons_zero, List.set_cons_succ]
  refine wpAnyH_take (i := 14) (oi := { dst := some 24, op := Go.Op.load 99 (Go.Operand.tmp 23), type := 99, pos := _, after := #[{ on := 13, ground := Go.Ground.data }, { on := 2, ground := Go.Ground.guard }], guard := some (2, false) }) (v := undef) rfl (by kernel_rfl) (by kernel_rfl) (by kernel_rfl) (fun _ _ _ h => h) (Or.inr ⟨by rfl, rfl⟩) (by assumption) ?tk22015
  try simp only [Act.put, List.setIfInBounds_toArray, List.set_cons_zero, List.set_cons_succ]
  refine wpAnyH_take (i := 15) (oi := { dst := some 25, op := Go.Op.lookup 163 (Go.Operand.tmp 16) (Go.Operand.tmp 24) false, type := 4, pos := _, after := #[{ on := 6, ground := Go.Ground.data }, { on := 14, ground := Go.Ground.data }, { on := 2, ground := Go.Ground.guard }], guard := some (2, false) }) (v := undef) rfl (by kernel_rfl) (by kernel_rfl) (by kernel_rfl) (fun _ _ _ h => h) (Or.inr ⟨by rfl, rfl⟩) (by assumption) ?tk22016
  try simp only [Act.put, List.setIfInBounds_toArray, List.set_cons_zero, List.set_cons_succ]
  refine wpAnyH_take (i := 16) (oi := { dst := some 26, op := Go.Op.unOp Go.UnOp.not 4 (Go.Operand.tmp 25), type := 4, pos := _, after := #[{ on := 15, ground := Go.Ground.data }, { on := 2, ground := Go.Ground.guard }], guard := some (2, false) }) (v := undef) rfl (by kernel_rfl) (by kernel_rfl) (by kernel_rfl) (fun _ _ _ h => h) (Or.inr ⟨by rfl, rfl⟩) (by assumption) ?tk22017
  try simp only [Act.put, List.setIfInBounds_toArray, List.set_cons_zero, List.set_cons_succ]
  refine wpAnyH_take (i := 17) (oi := { dst := some 27, op := Go.Op.pick (Go.Operand.tmp 12) (Go.Operand.const (Go.Value.bool true)) (Go.Operand.tmp 26), type := 4, pos := _, after := #[{ on := 2, ground := Go.Ground.data }, { on := 16, ground := Go.Ground.data }], guard := none }) (v := ?vv22018) rfl (by kernel_rfl) (by kernel_rfl) (by kernel_rfl) (fun _ _ _ h => h) (Or.inl ⟨by rfl, ?hy22018⟩) (by assumption) ?tk22018
  case hy22018 => (intro w hSw; (try dsimp only at hSw); go_simp; (try with_reducible rfl))
  try simp only [Act.put, List.setIfInBounds_toArray, List.set_cons_zero, List.set_cons_succ]
  refine wpAnyH_take (i := 18) (oi := { dst := some 9, op := Go.Op.assign (Go.Operand.tmp 27), type := 4, pos := _, after := #[{ on := 17, ground := Go.Ground.data }, { on := 2, ground := Go.Ground.chain }], guard := none }) (v := ?vv22019) rfl (by kernel_rfl) (by kernel_rfl) (by kernel_rfl) (fun _ _ _ h => h) (Or.inl ⟨by rfl, ?hy22019⟩) (by assumption) ?tk22019
  case hy22019 => (intro w hSw; (try dsimp only at hSw); go_simp; (try with_reducible rfl))
  try simp only [Act.put, List.setIfInBounds_toArray, List.set_cons_zero, List.set_cons_succ]
  refine wpAnyH_done (by kernel_rfl) ?_ _
  clear hHeld
  go_wp2
  go_ret
  exact ⟨rfl, rfl⟩
set_option maxRecDepth 20000 in
set_option maxHeartbeats 8000000 in
theorem order_any {w : World} {PL E RB gj m cj : Nat} (h0 : w.cell? ⟨PL, 0, none⟩ = some (.pointer (some ⟨E, 0, none⟩))) (h1 : w.cell? ⟨E, 1, none⟩ = some (.int .u8 1)) (h4 : w.cell? ⟨RB, 4, none⟩ = some (.slice (some ⟨gj, 0, none⟩) m cj)) (hm : m ≤ 100) (hm0 : 0 < m) :
    Calls Tryz.prog 59 #[.pointer (some ⟨PL, 0, none⟩), .pointer (some ⟨RB, 0, none⟩), .int .i64 (-1)] w fun e w' => ∃ OR, e = .returned (.slice (some ⟨OR, 0, none⟩) m m) ∧ w.heap.size ≤ OR ∧ (∀ i, i < m → w'.cell? ⟨OR, i, none⟩ = some (.int .i64 (i : Int))) ∧ Below w.heap.size w w' := by
  obtain ⟨i3, hi3, hz0, hz1, hz2⟩ := info_parts info3
  go_enter Tryz.func59, Tryz.ntmps59
  go_wp2_with (first | (at_make; refine wpList_make_full _ rfl _ _ 41 rfl w.heap.size 3 i3 _ 1 Tryz.underlying41 hi3 hz0 hz1 .i64 .i64 (m : Int) (m : Int) m rfl rfl rfl rfl (by rw [hz2]; omega) (by unfold maxLen; omega) (Nat.le_refl _) ?_) | go_in)
  intro w3 hown3 hgrow3
  have hb3 : Below w.heap.size w w3 := ⟨hgrow3.os, hgrow3.tape, hgrow3.output, hgrow3.size, fun k hk => hgrow3.block k hk (by simp)⟩
  have hs3 : w.heap.size < w3.heap.size := (hown3.lt w.heap.size rfl).2
  have C3 : ∀ j, j < m → ∃ v, w3.cell? ⟨w.heap.size, j, none⟩ = some v := fun j hj => ⟨_, (hown3.cellAt j (by omega)).trans (List.getElem?_eq_getElem (by rw [hown3.1]; omega))⟩
  have F3 : ∀ o, w3.frozen? ⟨w.heap.size, o, none⟩ = false := fun o => hown3.frozenAt o
  have HQ := hideIt (And.intro hb3 (And.intro C3 F3))
  clear hown3 hgrow3 hb3 C3 F3 h0 h1 h4
  go_wp2_with fail
  go_loopg [27] m (fun gg v wr => ∃ i : Nat, i + gg = m ∧ v = .int .i64 (i : Int) ∧ (∀ j, j < m → ∃ v, wr.cell? ⟨w.heap.size, j, none⟩ = some v) ∧ (∀ j, j < i → wr.cell? ⟨w.heap.size, j, none⟩ = some (.int .i64 (j : Int))) ∧ (∀ o, wr.frozen? ⟨w.heap.size, o, none⟩ = false) ∧ Below w.heap.size w wr)
  case atStart =>
    obtain ⟨hb3, C3, F3⟩ := HQ.out
    exact ⟨0, by omega, rfl, C3, fun j hj => by omega, F3, hb3⟩
  case round =>
    obtain ⟨i, hi, rfl, C, D, F, hb⟩ := hrel
    by_cases hin : i < m
    · have i0 : (0 : Int) ≤ i := by omega
      have i1 : (i : Int) < (m : Int) := by omega
      obtain ⟨v, hv⟩ := C i hin
      have HZ := hideIt (And.intro C (And.intro D hb))
      clear C D hb
      go_wp2
      go_roundg (m - (i + 1))
      case measure => omega
      case rel =>
        obtain ⟨C, D, hb⟩ := HZ.out
        refine ⟨i + 1, by omega, by go_num, fun j hj => ?_, fun j hj => ?_, fun o => (World.frozen?_setCell _ _ _ _).trans (F o), below_cell hb (Nat.le_refl _) _⟩
        · by_cases q : j = i
          · subst q; exact ⟨_, World.cell?_setCell_same _ _ _ hv⟩
          · obtain ⟨u, hu⟩ := C j hj
            exact ⟨u, (World.cell?_setCell_other _ _ _ _ (by simp <;> omega)).trans hu⟩
        · by_cases q : j = i
          · subst q; exact World.cell?_setCell_same _ _ _ hv
          · exact (World.cell?_setCell_other _ _ _ _ (by simp <;> omega)).trans (D j (by omega))
    · have e : m = i := by omega
      subst e
      have i1 : ¬ ((m : Int) < (m : Int)) := by omega
      have HZ := hideIt (And.intro D hb)
      clear C D F hb
      go_wp2
      go_ret
      exact ⟨_, rfl, Nat.le_refl _, HZ.out.1, HZ.out.2⟩
/-- The steps' own values. -/
structure SY where
  h : Nat → Int
  ix : Nat → Value
  ky : Nat → Value
  ac : Nat → Value
  lo : Nat → Nat
  hi : Nat → Nat
def stC (gj : Nat) (Y : SY) : Nat → List Value
  | 0 => []
  | k + 1 => stC gj Y k ++ [.pointer (some ⟨gj, k * 3, none⟩), .int .i64 (k : Int), .int .u8 0, .int .u8 (Y.h k), Y.ix k, Y.ky k, Y.ac k, .slice none 0 0]
def updI (f : Nat → Int) (i : Nat) (x : Int) : Nat → Int := fun j => if j = i then x else f j
theorem updI_same (f : Nat → Int) (i : Nat) (x : Int) : updI f i x i = x := if_pos rfl
theorem updI_other (f : Nat → Int) {i j : Nat} (x : Int) (h : j ≠ i) : updI f i x j = f j := if_neg h
def SY.upd (Y : SY) (k : Nat) (h : Int) (ix kv av : Value) (lo hi : Nat) : SY := ⟨updI Y.h k h, updV Y.ix k ix, updV Y.ky k kv, updV Y.ac k av, updN Y.lo k lo, updN Y.hi k hi⟩
theorem stC_upd (gj : Nat) (Y : SY) (k : Nat) (h : Int) (ix kv av : Value) (lo hi : Nat) : ∀ i, i ≤ k → stC gj (Y.upd k h ix kv av lo hi) i = stC gj Y i
  | 0, _ => rfl
  | i + 1, hh => by
    unfold stC
    rw [stC_upd gj Y k h ix kv av lo hi i (by omega)]
    show stC gj Y i ++ [_, _, _, .int .u8 (updI Y.h k h i), updV Y.ix k ix i, updV Y.ky k kv i, updV Y.ac k av i, _] = _
    rw [updI_other _ _ (by omega), updV_other _ _ (by omega), updV_other _ _ (by omega), updV_other _ _ (by omega)]
/-- A plan with k steps. -/
structure PlI (w : World) (P : Nat) (J : JP) (X : JX) (k : Nat) (sv : Value) (Y : SY) : Prop where
  c0 : w.cell? ⟨P, 0, none⟩ = some (.pointer (some ⟨J.ρ.RB, 0, none⟩))
  c1 : w.cell? ⟨P, 1, none⟩ = some (.int .i64 (-1))
  c2 : w.cell? ⟨P, 2, none⟩ = some (.slice none 0 0)
  c3 : w.cell? ⟨P, 3, none⟩ = some (sv)
  fz : ∀ o, w.frozen? ⟨P, o, none⟩ = false
  own : w.ownsRow (P + 1) 191 8 sv k (stC J.ρ.gj Y k)
  ka : ∀ j, j < k → KaJ w (Y.lo j) (Y.hi j) J X j (Y.h j) (Y.ix j) (Y.ky j) (Y.ac j)
  pl : ∀ j, j < k → P < Y.lo j ∧ Y.hi j ≤ w.heap.size
  dj : ∀ j, j < k → ∀ q, sv.ownBlock = some q → ¬ (Y.lo j ≤ q ∧ q < Y.hi j)
theorem PlI.keep {w' : World} {w : World} {P : Nat} {J : JP} {X : JX} {k : Nat} {sv : Value} {Y : SY} (h : PlI w P J X k sv Y) (hs : w.heap.size ≤ w'.heap.size) (hk : ∀ q, q < w.heap.size → P ≤ q → w'.heap[q]? = w.heap[q]?) : PlI w' P J X k sv Y := by
  have e := hk P (World.block_lt_of_cell? _ _ h.c0) (Nat.le_refl _)
  exact ⟨(World.cell?_of_block (a := ⟨P, 0, none⟩) e).trans h.c0, (World.cell?_of_block (a := ⟨P, 1, none⟩) e).trans h.c1, (World.cell?_of_block (a := ⟨P, 2, none⟩) e).trans h.c2, (World.cell?_of_block (a := ⟨P, 3, none⟩) e).trans h.c3, fun o => (World.frozen?_of_block (a := ⟨P, o, none⟩) e).trans (h.fz o), own_one h.own (fun q hq => hk q (h.own.lt q hq).2 (by have := (h.own.lt q hq).1; omega)), fun j hj => (h.ka j hj).keep (fun q h1 h2 => hk q (by have := (h.pl j hj).2; omega) (by have := (h.pl j hj).1; omega)), fun j hj => ⟨(h.pl j hj).1, Nat.le_trans (h.pl j hj).2 hs⟩, h.dj⟩
theorem PlI.keep2 {w' : World} {base : Nat} {w : World} {P : Nat} {J : JP} {X : JX} {k : Nat} {sv : Value} {Y : SY} (h : PlI w P J X k sv Y) (hs : w.heap.size ≤ w'.heap.size) (hb : ∀ j, j < k → base ≤ Y.lo j) (hsv : ∀ q, sv.ownBlock = some q → base ≤ q) (hk : ∀ q, q < w.heap.size → (q = P ∨ base ≤ q) → w'.heap[q]? = w.heap[q]?) : PlI w' P J X k sv Y := by
  have e := hk P (World.block_lt_of_cell? _ _ h.c0) (.inl rfl)
  exact ⟨(World.cell?_of_block (a := ⟨P, 0, none⟩) e).trans h.c0, (World.cell?_of_block (a := ⟨P, 1, none⟩) e).trans h.c1, (World.cell?_of_block (a := ⟨P, 2, none⟩) e).trans h.c2, (World.cell?_of_block (a := ⟨P, 3, none⟩) e).trans h.c3, fun o => (World.frozen?_of_block (a := ⟨P, o, none⟩) e).trans (h.fz o), own_one h.own (fun q hq => hk q (h.own.lt q hq).2 (.inr (hsv q hq))), fun j hj => (h.ka j hj).keep (fun q h1 h2 => hk q (by have := (h.pl j hj).2; omega) (.inr (by have := hb j hj; omega))), fun j hj => ⟨(h.pl j hj).1, Nat.le_trans (h.pl j hj).2 hs⟩, h.dj⟩
theorem PlI.chX {w : World} {P : Nat} {J : JP} {X : JX} {k : Nat} {sv : Value} {Y : SY} (h : PlI w P J X k sv Y) (hk : k ≤ 1) (X' : JX) : PlI w P J X' k sv Y := ⟨h.c0, h.c1, h.c2, h.c3, h.fz, h.own, fun j hj => (h.ka j hj).chX (by omega) X', h.pl, h.dj⟩
theorem PlI.push {w wa w3 : World} {P : Nat} {J : JP} {X : JX} {k : Nat} {sv sv' : Value} {Y : SY} {h' : Int} {ix kv av : Value} {lo hi : Nat} (h : PlI w P J X k sv Y) (hka : KaJ w lo hi J X k h' ix kv av) (hlo : P < lo ∧ hi ≤ w.heap.size) (hkd : ∀ q, sv.ownBlock = some q → ¬ (lo ≤ q ∧ q < hi)) (ho : w3.ownsRow (P + 1) 191 8 sv' (k + 1) (stC J.ρ.gj Y k ++ [.pointer (some ⟨J.ρ.gj, k * 3, none⟩), .int .i64 (k : Int), .int .u8 0, .int .u8 h', ix, kv, av, .slice none 0 0])) (hbA : Below w.heap.size w wa) (hg : wa.grownBy w3 sv.ownBlock) (hblk : sv'.ownBlock = sv.ownBlock ∨ sv'.ownBlock = some wa.heap.size) : PlI (w3.setCell ⟨P, 3, none⟩ sv') P J X (k + 1) sv' (Y.upd k h' ix kv av lo hi) := by
  have hl : P < w.heap.size := World.block_lt_of_cell? _ _ h.c0
  have hsz := hbA.size
  have hr : some P ≠ sv.ownBlock := fun e => by have := (h.own.lt P e.symm).1; omega
  have eb : w3.heap[P]? = w.heap[P]? := (hg.block P (by omega) hr).trans (hbA.block P hl)
  have o : ∀ j, j ≠ 3 → (w3.setCell ⟨P, 3, none⟩ sv').cell? ⟨P, j, none⟩ = w.cell? ⟨P, j, none⟩ := fun j hj => (World.cell?_setCell_other _ _ _ _ (by simp <;> omega)).trans (World.cell?_of_block (a := ⟨P, j, none⟩) eb)
  have j3 : w3.cell? ⟨P, 3, none⟩ = some sv := (World.cell?_of_block (a := ⟨P, 3, none⟩) eb).trans h.c3
  have e1 : stC J.ρ.gj (Y.upd k h' ix kv av lo hi) (k + 1) = stC J.ρ.gj Y k ++ [.pointer (some ⟨J.ρ.gj, k * 3, none⟩), .int .i64 (k : Int), .int .u8 0, .int .u8 h', ix, kv, av, .slice none 0 0] := by
    show stC J.ρ.gj (Y.upd k h' ix kv av lo hi) k ++ [_, _, _, .int .u8 (updI Y.h k h' k), updV Y.ix k ix k, updV Y.ky k kv k, updV Y.ac k av k, _] = _
    rw [stC_upd J.ρ.gj Y k h' ix kv av lo hi k (Nat.le_refl _), updI_same, updV_same, updV_same, updV_same]
  have kq : ∀ q, q < w.heap.size → P < q → sv.ownBlock ≠ some q → (w3.setCell ⟨P, 3, none⟩ sv').heap[q]? = w.heap[q]? := fun q h1 h2 h3 => (far_set (by omega)).trans ((hg.block q (by omega) (fun e => h3 e.symm)).trans (hbA.block q h1))
  have hgs := hg.size
  have Kz : ∀ j, j < k + 1 → (KaJ w ((Y.upd k h' ix kv av lo hi).lo j) ((Y.upd k h' ix kv av lo hi).hi j) J X j ((Y.upd k h' ix kv av lo hi).h j) ((Y.upd k h' ix kv av lo hi).ix j) ((Y.upd k h' ix kv av lo hi).ky j) ((Y.upd k h' ix kv av lo hi).ac j)) ∧ (P < (Y.upd k h' ix kv av lo hi).lo j ∧ (Y.upd k h' ix kv av lo hi).hi j ≤ w.heap.size) ∧ ∀ q, sv.ownBlock = some q → ¬ ((Y.upd k h' ix kv av lo hi).lo j ≤ q ∧ q < (Y.upd k h' ix kv av lo hi).hi j) := fun j hj => by
    show (KaJ w (updN Y.lo k lo j) (updN Y.hi k hi j) J X j (updI Y.h k h' j) (updV Y.ix k ix j) (updV Y.ky k kv j) (updV Y.ac k av j)) ∧ (P < updN Y.lo k lo j ∧ updN Y.hi k hi j ≤ w.heap.size) ∧ ∀ q, sv.ownBlock = some q → ¬ (updN Y.lo k lo j ≤ q ∧ q < updN Y.hi k hi j)
    by_cases z : j = k
    · subst z
      rw [updN_same, updN_same, updI_same, updV_same, updV_same, updV_same]
      exact ⟨hka, hlo, hkd⟩
    · rw [updN_other _ _ z, updN_other _ _ z, updI_other _ _ z, updV_other _ _ z, updV_other _ _ z, updV_other _ _ z]
      exact ⟨h.ka j (by omega), h.pl j (by omega), h.dj j (by omega)⟩
  refine ⟨(o 0 (by omega)).trans h.c0, (o 1 (by omega)).trans h.c1, (o 2 (by omega)).trans h.c2, World.cell?_setCell_same _ _ _ j3, fun o => (World.frozen?_setCell _ _ _ _).trans ((World.frozen?_of_block (a := ⟨P, o, none⟩) eb).trans (h.fz o)), ?_, fun j hj => (Kz j hj).1.keep (fun q h1 h2 => kq q (by have := (Kz j hj).2.1; omega) (by have := (Kz j hj).2.1; omega) (fun e => (Kz j hj).2.2 q e ⟨h1, h2⟩)), fun j hj => ⟨(Kz j hj).2.1.1, by have := (Kz j hj).2.1.2; simp; omega⟩, fun j hj q hq => ?_⟩
  · rw [e1]
    exact own_one ho (fun q hq => far_set (fun (e : q = P) => by have := (ho.lt q hq).1; omega))
  · rcases hblk with z | z
    · exact (Kz j hj).2.2 q (z ▸ hq)
    · rw [z] at hq
      have := Option.some.inj hq
      have := (Kz j hj).2.1
      omega
set_option maxRecDepth 20000 in
set_option maxHeartbeats 8000000 in
theorem plan_any {w : World} {J : JP} {PL : Nat} (K : JOk J) (h0 : w.cell? ⟨PL, 0, none⟩ = some (.pointer (some ⟨J.E, 0, none⟩))) (HR : RuX w J.ρ) (HE : EngAt w J.E J.c) (H : RelAt w J.rq J.nm J.s) (hd : J.E ≠ PL ∧ J.E ≠ J.rq ∧ J.rq ≠ PL) (hρ : ∀ q, J.ρ.has q → q ≠ J.E ∧ q ≠ J.rq) :
    Calls Tryz.prog 48 #[.pointer (some ⟨PL, 0, none⟩), .pointer (some ⟨J.ρ.RB, 0, none⟩), .int .i64 (-1)] w fun e w' => e = .returned (.pointer (some ⟨w.heap.size, 0, none⟩)) ∧ ∃ X sv Y, PlI w' w.heap.size J X 2 sv Y ∧ EngAt w' J.E (updV J.c 20 (.int .i64 1)) ∧ RelAt w' J.rq J.nm { J.s with idx := .slice (some ⟨X.gi, 0, none⟩) 1 X.ci } ∧ Ws (fun q => q = J.rq ∨ q = J.E) w w' := by
  obtain ⟨i9, hi9, hx0, hx1, hx2⟩ := info_parts info191
  obtain ⟨i4, hi4, hy0, hy1, hy2⟩ := info_parts info4
  obtain ⟨hdE1, hdE2, hdE3⟩ := hd
  have hPLl : PL < w.heap.size := World.block_lt_of_cell? _ _ h0
  have hEl := HE.lt
  have hrl := H.lt
  have hRBl := HR.lt (q := J.ρ.RB) (.inl rfl)
  have bP := one_alloc w (.cells #[.pointer (some ⟨J.ρ.RB, 0, none⟩), .int .i64 (-1), .slice none 0 0, .slice none 0 0] 182)
  have q7 := cell_later bP HR.c7
  rw [K.R] at q7
  have q5 := cell_later bP HR.c5
  have hs1 : (w.alloc (.cells #[.pointer (some ⟨J.ρ.RB, 0, none⟩), .int .i64 (-1), .slice none 0 0, .slice none 0 0] 182)).heap.size = w.heap.size + 1 := by simp
  have p0 : (w.alloc (.cells #[.pointer (some ⟨J.ρ.RB, 0, none⟩), .int .i64 (-1), .slice none 0 0, .slice none 0 0] 182)).cell? ⟨w.heap.size, 0, none⟩ = some (.pointer (some ⟨J.ρ.RB, 0, none⟩)) := by simp
  have p1 : (w.alloc (.cells #[.pointer (some ⟨J.ρ.RB, 0, none⟩), .int .i64 (-1), .slice none 0 0, .slice none 0 0] 182)).cell? ⟨w.heap.size, 1, none⟩ = some (.int .i64 (-1)) := by simp
  have p2 : (w.alloc (.cells #[.pointer (some ⟨J.ρ.RB, 0, none⟩), .int .i64 (-1), .slice none 0 0, .slice none 0 0] 182)).cell? ⟨w.heap.size, 2, none⟩ = some (.slice none 0 0) := by simp
  have p3 : (w.alloc (.cells #[.pointer (some ⟨J.ρ.RB, 0, none⟩), .int .i64 (-1), .slice none 0 0, .slice none 0 0] 182)).cell? ⟨w.heap.size, 3, none⟩ = some (.slice none 0 0) := by simp
  have pf : ∀ o, (w.alloc (.cells #[.pointer (some ⟨J.ρ.RB, 0, none⟩), .int .i64 (-1), .slice none 0 0, .slice none 0 0] 182)).frozen? ⟨w.heap.size, o, none⟩ = false := fun o => by simp
  have HQ := hideIt (And.intro HR (And.intro HE (And.intro H (And.intro h0 (And.intro bP (And.intro hs1 (And.intro K hρ)))))))
  clear HR HE H h0 bP hs1 K hρ
  go_enter Tryz.func48, Tryz.ntmps48
  go_upto_region 2 with fail
  generalize w.alloc (.cells #[.pointer (some ⟨J.ρ.RB, 0, none⟩), .int .i64 (-1), .slice none 0 0, .slice none 0 0] 182) = w1 at *
  go_wp2_with (first | (at_make; refine wpList_make_full _ rfl _ _ 138 rfl w1.heap.size 4 i4 _ 1 Tryz.underlying138 hi4 hy0 hy1 .i64 .i64 (3 : Int) (3 : Int) 3 rfl rfl rfl rfl (by rw [hy2]; omega) (by unfold maxLen; omega) (by simp <;> omega) ?_) | go_in)
  intro w2 own2 grow2
  have b2 : Below w1.heap.size w1 w2 := ⟨grow2.os, grow2.tape, grow2.output, grow2.size, fun k hk => grow2.block k hk (by simp)⟩
  have hg2 : w1.heap.size < w2.heap.size := (own2.lt w1.heap.size rfl).2
  have B2 : BoolAt w2 w1.heap.size 3 (fun _ => false) := by
    refine ⟨fun j hj => ?_, fun o => own2.frozenAt o⟩
    have e := own2.cellAt j (by omega)
    rw [made_one, List.getElem?_replicate, if_pos hj] at e
    exact e
  have r5 := cell_later b2 q5
  have H2 := hideIt (And.intro b2 (And.intro hg2 B2))
  clear own2 grow2 b2 hg2 B2 q7
  go_wp2_with (first | (at_make; refine wpList_make_full _ rfl _ _ 138 rfl w2.heap.size 4 i4 _ 1 Tryz.underlying138 hi4 hy0 hy1 .i64 .i64 (0 : Int) (0 : Int) 0 rfl rfl rfl rfl (by rw [hy2]; omega) (by unfold maxLen; omega) (by simp <;> omega) ?_) | go_in)
  intro w3 own3 grow3
  have b3 : Below w2.heap.size w2 w3 := ⟨grow3.os, grow3.tape, grow3.output, grow3.size, fun k hk => grow3.block k hk (by simp)⟩
  have s5 := cell_later b3 r5
  obtain ⟨b2, hg2, B2⟩ := H2.out
  have b13 := then_ b2 b3
  have t2 := cell_later b13 p2
  have hPb1 : w.heap.size < w1.heap.size := World.block_lt_of_cell? _ _ p2
  have tf : ∀ o, w3.frozen? ⟨w.heap.size, o, none⟩ = false := fun o => (World.frozen?_of_block (a := ⟨w.heap.size, o, none⟩) (b13.block _ hPb1)).trans (pf o)
  have HC := hideIt (And.intro (cell_later b13 p0) (And.intro (cell_later b13 p1) (And.intro t2 (And.intro (cell_later b13 p3) tf))))
  have H3 := hideIt (And.intro b13 (And.intro (Nat.lt_of_lt_of_le hg2 b3.size) (B2.blk (b3.block _ hg2))))
  clear own3 grow3 b3 b2 hg2 B2 b13 p0 p1 p2 p3 pf q5 r5 H2
  have hrp := fun fv pv => ripe_any (w := w3) fv pv s5
  go_wp2_with fail
  refine (hrp _ _).mono ?_
  rintro e w4 ⟨rfl, ew⟩
  replace ew := ew.symm
  subst ew
  clear hrp
  go_upto_region 5 with fail
  rw [setCell_self t2]
  obtain ⟨HR, HE, H, h0, b1, hs1, K, hρ⟩ := HQ.out
  obtain ⟨b13, hg3, B3⟩ := H3.out
  have bw3 := then_ b1 b13
  have HR3 := HR.below bw3
  have c43 := HR3.c4
  rw [K.m] at c43
  have hord := order_any (cell_later bw3 h0) (cell_later bw3 (HE.get K.c1 (by omega))) c43 (by omega) (by omega)
  clear HR HE H h0 b1 hs1 K hρ b13 B3 bw3 HR3 s5 t2 tf c43
  go_wp2_with fail
  refine hord.mono ?_
  rintro e w4 ⟨OR, rfl, hOR, hORc, b34⟩
  obtain ⟨HR, HE, H, h0, b1, hs1, K, hρ⟩ := HQ.out
  obtain ⟨b13, hg3', B3⟩ := H3.out
  obtain ⟨x0, x1, x2, x3, xf⟩ := HC.out
  have bw3 := then_ b1 b13
  have hs3 := b13.size
  have hs4 := b34.size
  have bw4 := then_ bw3 b34
  have hP4 : w4.heap[w.heap.size]? = w3.heap[w.heap.size]? := b34.block _ (by omega)
  have hF4 : w4.heap[w1.heap.size]? = w3.heap[w1.heap.size]? := b34.block _ (by omega)
  have I4 : PlI w4 w.heap.size J ⟨0, 0, 0, 0, 0⟩ 0 (.slice none 0 0) ⟨fun _ => 0, fun _ => undef, fun _ => undef, fun _ => undef, fun _ => 0, fun _ => 0⟩ :=
    ⟨(World.cell?_of_block (a := ⟨w.heap.size, 0, none⟩) hP4).trans x0, (World.cell?_of_block (a := ⟨w.heap.size, 1, none⟩) hP4).trans x1, (World.cell?_of_block (a := ⟨w.heap.size, 2, none⟩) hP4).trans x2, (World.cell?_of_block (a := ⟨w.heap.size, 3, none⟩) hP4).trans x3, fun o => (World.frozen?_of_block (a := ⟨w.heap.size, o, none⟩) hP4).trans (xf o), own_nil _ _ _ _, fun j hj => by omega, fun j hj => by omega, fun j hj => by omega⟩
  have R4 : REJ w4 w1.heap.size J ⟨0, 0, 0, 0, 0⟩ 0 := ⟨⟨_, B3.blk hF4, fun _ x => rfl, fun e => by omega⟩, by rw [if_neg (by omega)]; exact HE.below bw4, by rw [if_neg (by omega)]; exact H.below bw4⟩
  have U4 : RuX w4 J.ρ := HR.below bw4
  have c40 := cell_later bw4 h0
  have hORl : OR < w4.heap.size := World.block_lt_of_cell? _ _ (hORc 0 (by omega))
  have hFv : w.heap.size < w1.heap.size ∧ w1.heap.size < w3.heap.size ∧ w3.heap.size ≤ OR := by omega
  have hlt4 : ∀ q, J.ρ.has q → q < w.heap.size := fun q hq => HR.lt hq
  have HZ4 := hideIt (And.intro I4 (And.intro R4 bw4))
  have HZR := hideIt (And.intro U4 (And.intro c40 (And.intro hORc (And.intro K (And.intro hρ hlt4)))))
  clear HR HE H h0 b1 hs1 K hρ b13 hg3' B3 x0 x1 x2 x3 xf bw3 bw4 hP4 hF4 I4 R4 U4 c40 HC H3 hord hORc hOR hlt4 b34
  obtain ⟨FL, hFLe⟩ : ∃ FL, w1.heap.size = FL := ⟨_, rfl⟩
  rw [hFLe] at HZ4 hFv hg3
  rw [hFLe]
  clear hFLe
  obtain ⟨P, hPe⟩ : ∃ P, w.heap.size = P := ⟨_, rfl⟩
  rw [hPe] at HZ4 hFv hRBl hPLl hEl hrl HZR
  rw [hPe]
  have HPE := hideIt hPe
  clear hPe
  go_wp2_with fail
  go_loopg [40] 2 (fun gg v wr => ∃ k : Nat, k + gg = 2 ∧ v = .int .i64 (k : Int) ∧ ∃ X sv Y, PlI wr P J X k sv Y ∧ REJ wr FL J X k ∧ Ws (fun q => q = P ∨ q = FL ∨ q = J.rq ∨ q = J.E) w4 wr ∧ (∀ j, j < k → w4.heap.size ≤ Y.lo j) ∧ ∀ q, sv.ownBlock = some q → w4.heap.size ≤ q)
  case atStart =>
    obtain ⟨I4, R4, bw4⟩ := HZ4.out
    exact ⟨0, by omega, rfl, _, _, _, I4, R4, Ws.refl _ _, fun j hj => by omega, fun q hq => by simp [Value.ownBlock] at hq⟩
  case round =>
    obtain ⟨k, hk, rfl, X, sv, Y, I, RE, W, hYlo, hsvlo⟩ := hrel
    have hsw := W.size
    by_cases hin : k < 2
    · have k0 : (0 : Int) ≤ k := by omega
      have k1 : (k : Int) < 2 := by omega
      obtain ⟨U4, c40, hORc, K, hρ, hlt4⟩ := HZR.out
      have kp : ∀ q, q < w4.heap.size → q ≠ P → q ≠ FL → q ≠ J.rq → q ≠ J.E → wr.heap[q]? = w4.heap[q]? := fun q z1 z2 z3 z4 z5 => W.block q z1 (fun e => by rcases e with e | e | e | e; exact z2 e; exact z3 e; exact z4 e; exact z5 e)
      have co := (World.cell?_of_block (a := ⟨OR, k, none⟩) (kp OR hORl (by omega) (by omega) (by omega) (by omega))).trans (hORc k hin)
      have U : RuX wr J.ρ := U4.keep (fun q hq => kp q (by have := hlt4 q hq; omega) (by have := hlt4 q hq; omega) (by have := hlt4 q hq; omega) (hρ q hq).2 (hρ q hq).1)
      have y4 := U.c4
      rw [K.m] at y4
      have y5 := U.c5
      have d0 := (World.cell?_of_block (a := ⟨PL, 0, none⟩) (kp PL (by omega) (by omega) (by omega) (fun e => hdE3 e.symm) (fun e => hdE1 e.symm))).trans c40
      have hst : ∀ wq : World, Below wr.heap.size wr wq → Calls Tryz.prog 60 #[.pointer (some ⟨PL, 0, none⟩), .pointer (some ⟨J.ρ.gj, k * 3, none⟩), .int .u8 0, .slice (some ⟨FL, 0, none⟩) 3 3] wq fun e w' => ∃ X' h ix kv av, e = .returned (.agg #[.pointer (some ⟨J.ρ.gj, k * 3, none⟩), .int .i64 0, .int .u8 0, .int .u8 h, ix, kv, av, .slice none 0 0]) ∧ KaJ w' wq.heap.size w'.heap.size J X' k h ix kv av ∧ REJ w' FL J X' (k + 1) ∧ Ws (fun q => q = FL ∨ q = J.rq ∨ q = J.E) wq w' := fun wq bq =>
        stepJ K hin (cell_later bq d0) (U.below bq) (RE.keep (bq.block FL RE.lt.1) (bq.block J.E RE.lt.2.1) (bq.block J.rq RE.lt.2.2)) ⟨by omega, by omega, by omega, hdE1, hdE2, hdE3⟩ (fun q hq => ⟨by have := hlt4 q hq; omega, hρ q hq⟩)
      have HI := hideIt (And.intro I (And.intro RE (And.intro W (And.intro hYlo hsvlo))))
      have hPw : P < wr.heap.size := by omega
      have hRBw : J.ρ.RB < wr.heap.size := by omega
      have hRBF : ¬ (J.ρ.RB = FL ∨ J.ρ.RB = J.rq ∨ J.ρ.RB = J.E) := by have := hρ J.ρ.RB (.inl rfl); omega
      have HST := hideIt hst
      clear I RE W U U4 c40 hORc K hρ hlt4 kp d0 hst hYlo hsvlo
      go_upto_region 8 with fail
      go_cut [12] (fun v12 wc => ∃ SB X5 h5 ix5 kv av, v12 = .pointer (some ⟨SB, 0, none⟩) ∧ Hid (StB wc SB (stI (.pointer (some ⟨J.ρ.gj, k * 3, none⟩)) (.int .u8 h5) ix5 kv av) ∧ (∃ lo hi, KaJ wc lo hi J X5 k h5 ix5 kv av ∧ wr.heap.size ≤ lo ∧ hi ≤ wc.heap.size ∧ ¬ (lo ≤ SB ∧ SB < hi)) ∧ REJ wc FL J X5 (k + 1) ∧ Ws (fun q => q = FL ∨ q = J.rq ∨ q = J.E) wr wc) ∧ wr.heap.size ≤ SB ∧ SB < wc.heap.size)
      case first =>
        have hst := HST.out
        have y4a : (wr.alloc (.cells #[.pointer none, .int .i64 0, .int .u8 0, .int .u8 0, .pointer none, .slice none 0 0, .slice none 0 0, .slice none 0 0] 191)).cell? ⟨J.ρ.RB, 4, none⟩ = some (.slice (some ⟨J.ρ.gj, 0, none⟩) 2 J.ρ.cj) := cell_later (one_alloc wr _) y4
        have hRBa : J.ρ.RB < (wr.alloc (.cells #[.pointer none, .int .i64 0, .int .u8 0, .int .u8 0, .pointer none, .slice none 0 0, .slice none 0 0, .slice none 0 0] 191)).heap.size := by simp; omega
        have TZ : StB (wr.alloc (.cells #[.pointer none, .int .i64 0, .int .u8 0, .int .u8 0, .pointer none, .slice none 0 0, .slice none 0 0, .slice none 0 0] 191)) wr.heap.size (stV (.pointer none) (.int .u8 0) (.slice none 0 0) (.slice none 0 0)) := by
          refine ⟨fun i hi => ?_, fun o => new_frz rfl _ _ _⟩
          rw [new_cell rfl]
          rcases (by omega : i = 0 ∨ i = 1 ∨ i = 2 ∨ i = 3 ∨ i = 4 ∨ i = 5 ∨ i = 6 ∨ i = 7) with h | h | h | h | h | h | h | h <;> (subst h; rfl)
        refine wp_region_held_drew (S := (fun w' => w'.cell? ⟨J.ρ.RB, 4, none⟩ = some (.slice (some ⟨J.ρ.gj, 0, none⟩) 2 J.ρ.cj))) (by kernel_rfl) y4 (fun hHeld => ?_)
        refine wpAnyH_take (i := 0) (oi := { dst := some 44, op := Go.Op.move (Go.Operand.tmp 0), type := 162, pos := _, after := #[], guard := none }) (v := ?vv33509) rfl (by kernel_rfl) (by kernel_rfl) (by kernel_rfl) (fun _ _ _ h => h) (Or.inl ⟨by rfl, ?hy33509⟩) (by assumption) ?tk33509
        case hy33509 => (intro w hSw; (try dsimp only at hSw); go_simp; (try with_reducible rfl))
        try simp only [Act.put, List.setIfInBounds_toArray, List.set_cons_zero, List.set_cons_succ]
        refine wpAnyH_take (i := 1) (oi := { dst := some 45, op := Go.Op.move (Go.Operand.tmp 1), type := 92, pos := _, after := #[], guard := none }) (v := ?vv33510) rfl (by kernel_rfl) (by kernel_rfl) (by kernel_rfl) (fun _ _ _ h => h) (Or.inl ⟨by rfl, ?hy33510⟩) (by assumption) ?tk33510
        case hy33510 => (intro w hSw; (try dsimp only at hSw); go_simp; (try with_reducible rfl))
        try simp only [Act.put, List.setIfInBounds_toArray, List.set_cons_zero, List.set_cons_succ]
        refine wpAnyH_take (i := 2) (oi := { dst := some 46, op := Go.Op.nilCheck (Go.Operand.tmp 45), type := 0, pos := _, after := #[{ on := 1, ground := Go.Ground.data }], guard := none }) (v := ?vv33511) rfl (by kernel_rfl) (by kernel_rfl) (by kernel_rfl) (fun _ _ _ h => h) (Or.inl ⟨by rfl, ?hy33511⟩) (by assumption) ?tk33511
        case hy33511 => (intro w hSw; (try dsimp only at hSw); go_simp; (try with_reducible rfl))
        try simp only [Act.put, List.setIfInBounds_toArray, List.set_cons_zero, List.set_cons_succ]
        refine wpAnyH_take (i := 3) (oi := { dst := some 47, op := Go.Op.fieldAddr 106 (Go.Operand.tmp 46) 2, type := 0, pos := _, after := #[{ on := 2, ground := Go.Ground.data }], guard := none }) (v := ?vv33512) rfl (by kernel_rfl) (by kernel_rfl) (by kernel_rfl) (fun _ _ _ h => h) (Or.inl ⟨by rfl, ?hy33512⟩) (by assumption) ?tk33512
        case hy33512 => (intro w hSw; (try dsimp only at hSw); go_simp; (try with_reducible rfl))
        try simp only [Act.put, List.setIfInBounds_toArray, List.set_cons_zero, List.set_cons_succ]
        refine wpAnyH_take (i := 4) (oi := { dst := some 48, op := Go.Op.load 103 (Go.Operand.tmp 47), type := 103, pos := _, after := #[{ on := 3, ground := Go.Ground.data }], guard := none }) (v := ?vv33513) rfl (by kernel_rfl) (by kernel_rfl) (by kernel_rfl) (fun _ _ _ h => h) (Or.inl ⟨by rfl, ?hy33513⟩) (by assumption) ?tk33513
        case hy33513 => (intro w hSw; (try dsimp only at hSw); go_simp; (try with_reducible rfl))
        try simp only [Act.put, List.setIfInBounds_toArray, List.set_cons_zero, List.set_cons_succ]
        refine wpAnyH_take (i := 5) (oi := { dst := some 49, op := Go.Op.move (Go.Operand.tmp 11), type := 3, pos := _, after := #[], guard := none }) (v := ?vv33514) rfl (by kernel_rfl) (by kernel_rfl) (by kernel_rfl) (fun _ _ _ h => h) (Or.inl ⟨by rfl, ?hy33514⟩) (by assumption) ?tk33514
        case hy33514 => (intro w hSw; (try dsimp only at hSw); go_simp; (try with_reducible rfl))
        try simp only [Act.put, List.setIfInBounds_toArray, List.set_cons_zero, List.set_cons_succ]
        refine wpAnyH_take (i := 6) (oi := { dst := some 50, op := Go.Op.indexAddr 103 (Go.Operand.tmp 48) (Go.Operand.tmp 49), type := 0, pos := _, after := #[{ on := 4, ground := Go.Ground.data }, { on := 5, ground := Go.Ground.data }], guard := none }) (v := ?vv33515) rfl (by kernel_rfl) (by kernel_rfl) (by kernel_rfl) (fun _ _ _ h => h) (Or.inl ⟨by rfl, ?hy33515⟩) (by assumption) ?tk33515
        case hy33515 => (intro w hSw; (try dsimp only at hSw); go_simp; (try with_reducible rfl))
        try simp only [Act.put, List.setIfInBounds_toArray, List.set_cons_zero, List.set_cons_succ]
        refine wpAnyH_take (i := 7) (oi := { dst := some 51, op := Go.Op.move (Go.Operand.tmp 0), type := 162, pos := _, after := #[], guard := none }) (v := ?vv33516) rfl (by kernel_rfl) (by kernel_rfl) (by kernel_rfl) (fun _ _ _ h => h) (Or.inl ⟨by rfl, ?hy33516⟩) (by assumption) ?tk33516
        case hy33516 => (intro w hSw; (try dsimp only at hSw); go_simp; (try with_reducible rfl))
        try simp only [Act.put, List.setIfInBounds_toArray, List.set_cons_zero, List.set_cons_succ]
        refine wpAnyH_take (i := 8) (oi := { dst := some 52, op := Go.Op.move (Go.Operand.tmp 1), type := 92, pos := _, after := #[], guard := none }) (v := ?vv33517) rfl (by kernel_rfl) (by kernel_rfl) (by kernel_rfl) (fun _ _ _ h => h) (Or.inl ⟨by rfl, ?hy33517⟩) (by assumption) ?tk33517
        case hy33517 => (intro w hSw; (try dsimp only at hSw); go_simp; (try with_reducible rfl))
        try simp only [Act.put, List.setIfInBounds_toArray, List.set_cons_zero, List.set_cons_succ]
        refine wpAnyH_take (i := 9) (oi := { dst := some 53, op := Go.Op.move (Go.Operand.tmp 11), type := 3, pos := _, after := #[], guard := none }) (v := ?vv33518) rfl (by kernel_rfl) (by kernel_rfl) (by kernel_rfl) (fun _ _ _ h => h) (Or.inl ⟨by rfl, ?hy33518⟩) (by assumption) ?tk33518
        case hy33518 => (intro w hSw; (try dsimp only at hSw); go_simp; (try with_reducible rfl))
        try simp only [Act.put, List.setIfInBounds_toArray, List.set_cons_zero, List.set_cons_succ]
        refine wpAnyH_take (i := 10) (oi := { dst := some 54, op := Go.Op.move (Go.Operand.tmp 2), type := 3, pos := _, after := #[], guard := none }) (v := ?vv33519) rfl (by kernel_rfl) (by kernel_rfl) (by kernel_rfl) (fun _ _ _ h => h) (Or.inl ⟨by rfl, ?hy33519⟩) (by assumption) ?tk33519
        case hy33519 => (intro w hSw; (try dsimp only at hSw); go_simp; (try with_reducible rfl))
        try simp only [Act.put, List.setIfInBounds_toArray, List.set_cons_zero, List.set_cons_succ]
        refine wpAnyH_take (i := 12) (oi := { dst := some 56, op := Go.Op.move (Go.Operand.tmp 8), type := 138, pos := _, after := #[], guard := none }) (v := ?vv33520) rfl (by kernel_rfl) (by kernel_rfl) (by kernel_rfl) (fun _ _ _ h => h) (Or.inl ⟨by rfl, ?hy33520⟩) (by assumption) ?tk33520
        case hy33520 => (intro w hSw; (try dsimp only at hSw); go_simp; (try with_reducible rfl))
        try simp only [Act.put, List.setIfInBounds_toArray, List.set_cons_zero, List.set_cons_succ]
        refine wpAnyH_ready (rs := [11, 14]) (by kernel_rfl) (by simp) ?_
        refine AllReadyH.cons (o := { dst := some 55, op := Go.Op.call { callee := Go.Callee.value (Go.Operand.func 61), args := #[Go.Operand.tmp 51, Go.Operand.tmp 52, Go.Operand.tmp 53, Go.Operand.tmp 54], argTypes := #[162, 92, 3, 3] }, type := 186, pos := _, after := #[{ on := 7, ground := Go.Ground.data }, { on := 8, ground := Go.Ground.data }, { on := 9, ground := Go.Ground.data }, { on := 10, ground := Go.Ground.data }], guard := none }) rfl (fun K' hK' => ?_) (AllReadyH.cons (o := { dst := some 12, op := Go.Op.alloc 191, type := 0, pos := _, after := #[], guard := none }) rfl (fun K' hK' => ?_) AllReadyH.nil)
        · go_simp
          go_at_call 61
          refine (window_any _ _ _).mono ?_
          rintro e w8 ⟨rfl, rfl⟩
          clear hHeld
          refine hK'.out _ _ y4 (fun hHeld => ?_)
          clear hK' K'
          try simp only [Act.put, List.setIfInBounds_toArray, List.set_cons_zero, List.set_cons_succ]
          refine wpAnyH_ready (rs := [13, 14]) (by kernel_rfl) (by simp) ?_
          refine AllReadyH.cons (o := { dst := some 57, op := Go.Op.call { callee := Go.Callee.value (Go.Operand.func 60), args := #[Go.Operand.tmp 44, Go.Operand.tmp 50, Go.Operand.tmp 55, Go.Operand.tmp 56], argTypes := #[162, 185, 186, 138] }, type := 191, pos := _, after := #[{ on := 0, ground := Go.Ground.data }, { on := 6, ground := Go.Ground.data }, { on := 11, ground := Go.Ground.data }, { on := 12, ground := Go.Ground.data }, { on := 11, ground := Go.Ground.chain }], guard := none }) rfl (fun K' hK' => ?_) (AllReadyH.cons (o := { dst := some 12, op := Go.Op.alloc 191, type := 0, pos := _, after := #[], guard := none }) rfl (fun K' hK' => ?_) AllReadyH.nil)
          · go_simp
            go_at_call 60
            refine (hst wr.drew.drew (below_dr (below_dr (Below.refl _ _)))).mono ?_
            rintro e w5 ⟨X5, h5, ix5, kv, av, rfl, KA, RE5, W5⟩
            have y5 : w5.cell? ⟨J.ρ.RB, 4, none⟩ = some (.slice (some ⟨J.ρ.gj, 0, none⟩) 2 J.ρ.cj) := (World.cell?_of_block (a := ⟨J.ρ.RB, 4, none⟩) (W5.block J.ρ.RB hRBw hRBF)).trans y4
            obtain ⟨⟨pk, nk, ck, rfl⟩, ⟨pa, na, ca, rfl⟩, ⟨ia, rfl⟩⟩ := KA.shape
            have HX5 := hideIt (And.intro KA (And.intro RE5 W5))
            clear KA RE5 W5
            clear hHeld
            refine hK'.out _ _ y5 (fun hHeld => ?_)
            clear hK' K'
            try simp only [Act.put, List.setIfInBounds_toArray, List.set_cons_zero, List.set_cons_succ]
            refine wpAnyH_ready (rs := [14]) (by kernel_rfl) (by simp) ?_
            refine AllReadyH.cons (o := { dst := some 12, op := Go.Op.alloc 191, type := 0, pos := _, after := #[], guard := none }) rfl (fun K' hK' => ?_) AllReadyH.nil
            go_simp
            clear hHeld
            refine hK'.out _ _ (cell_later (one_alloc _ _) y5) (fun hHeld => ?_)
            clear hK' K'
            try simp only [Act.put, List.setIfInBounds_toArray, List.set_cons_zero, List.set_cons_succ]
            refine wpAnyH_ready (rs := [15]) (by kernel_rfl) (by simp) ?_
            refine AllReadyH.cons (o := { dst := none, op := Go.Op.store 191 (Go.Operand.tmp 12) (Go.Operand.tmp 57), type := 0, pos := _, after := #[{ on := 14, ground := Go.Ground.data }, { on := 13, ground := Go.Ground.data }, { on := 13, ground := Go.Ground.chain }, { on := 0, ground := Go.Ground.phase }, { on := 1, ground := Go.Ground.phase }, { on := 2, ground := Go.Ground.phase }, { on := 3, ground := Go.Ground.phase }, { on := 4, ground := Go.Ground.phase }, { on := 5, ground := Go.Ground.phase }, { on := 6, ground := Go.Ground.phase }, { on := 7, ground := Go.Ground.phase }, { on := 8, ground := Go.Ground.phase }, { on := 9, ground := Go.Ground.phase }, { on := 10, ground := Go.Ground.phase }, { on := 11, ground := Go.Ground.phase }, { on := 12, ground := Go.Ground.phase }, { on := 13, ground := Go.Ground.phase }, { on := 14, ground := Go.Ground.phase }], guard := none }) rfl (fun K' hK' => ?_) AllReadyH.nil
            go_simp
            clear hHeld
            refine hK'.out _ _ (cell_later (one_alloc _ _) y5) (fun hHeld => ?_)
            clear hK' K'
            try simp only [Act.put, List.setIfInBounds_toArray, List.set_cons_zero, List.set_cons_succ]
            refine wpAnyH_done (by kernel_rfl) ?_ _
            go_wp2
            go_meet
            case rel =>
              obtain ⟨KA, RE5, W5⟩ := HX5.out
              have bN := one_alloc w5 (.cells #[.pointer (some ⟨J.ρ.gj, k * 3, none⟩), .int .i64 0, .int .u8 0, .int .u8 h5, .pointer ia, .slice pk nk ck, .slice pa na ca, .slice none 0 0] 191)
              have W5' : Ws (fun q => q = FL ∨ q = J.rq ∨ q = J.E) wr w5 := ⟨W5.os, W5.tape, W5.output, W5.size, W5.block⟩
              have hs5 := W5'.size
              have hl5 := RE5.lt
              refine ⟨w5.heap.size, X5, h5, .pointer ia, .slice pk nk ck, .slice pa na ca, rfl, hideIt ⟨?_, ⟨wr.heap.size, w5.heap.size, KA.keep (fun q _ h2 => bN.block q h2), Nat.le_refl _, bN.size, by omega⟩, RE5.keep (bN.block FL hl5.1) (bN.block J.E hl5.2.1) (bN.block J.rq hl5.2.2), W5'.below bN⟩, hs5, by simp⟩
              refine ⟨fun i hi => ?_, fun o => new_frz rfl _ _ _⟩
              rw [new_cell rfl]
              rcases (by omega : i = 0 ∨ i = 1 ∨ i = 2 ∨ i = 3 ∨ i = 4 ∨ i = 5 ∨ i = 6 ∨ i = 7) with h | h | h | h | h | h | h | h <;> (subst h; rfl)
          · go_simp
            clear hHeld
            refine hK'.out _ _ y4a (fun hHeld => ?_)
            clear hK' K'
            try simp only [Act.put, List.setIfInBounds_toArray, List.set_cons_zero, List.set_cons_succ]
            refine wpAnyH_ready (rs := [13]) (by kernel_rfl) (by simp) ?_
            refine AllReadyH.cons (o := { dst := some 57, op := Go.Op.call { callee := Go.Callee.value (Go.Operand.func 60), args := #[Go.Operand.tmp 44, Go.Operand.tmp 50, Go.Operand.tmp 55, Go.Operand.tmp 56], argTypes := #[162, 185, 186, 138] }, type := 191, pos := _, after := #[{ on := 0, ground := Go.Ground.data }, { on := 6, ground := Go.Ground.data }, { on := 11, ground := Go.Ground.data }, { on := 12, ground := Go.Ground.data }, { on := 11, ground := Go.Ground.chain }], guard := none }) rfl (fun K' hK' => ?_) AllReadyH.nil
            go_simp
            go_at_call 60
            refine (hst (wr.alloc (.cells #[.pointer none, .int .i64 0, .int .u8 0, .int .u8 0, .pointer none, .slice none 0 0, .slice none 0 0, .slice none 0 0] 191)).drew.drew (below_dr (below_dr (one_alloc _ _)))).mono ?_
            rintro e w5 ⟨X5, h5, ix5, kv, av, rfl, KA, RE5, W5⟩
            have y5 : w5.cell? ⟨J.ρ.RB, 4, none⟩ = some (.slice (some ⟨J.ρ.gj, 0, none⟩) 2 J.ρ.cj) := (World.cell?_of_block (a := ⟨J.ρ.RB, 4, none⟩) (W5.block J.ρ.RB hRBa hRBF)).trans y4a
            obtain ⟨⟨pk, nk, ck, rfl⟩, ⟨pa, na, ca, rfl⟩, ⟨ia, rfl⟩⟩ := KA.shape
            have T5 : StB w5 wr.heap.size (stV (.pointer none) (.int .u8 0) (.slice none 0 0) (.slice none 0 0)) := TZ.blk (W5.block wr.heap.size (show wr.heap.size < (wr.alloc (.cells #[.pointer none, .int .i64 0, .int .u8 0, .int .u8 0, .pointer none, .slice none 0 0, .slice none 0 0, .slice none 0 0] 191)).heap.size by simp) (by omega))
            have z0 : w5.cell? ⟨wr.heap.size, 0, none⟩ = some (.pointer none) := T5.c 0 (by omega)
            have z1 : w5.cell? ⟨wr.heap.size, 1, none⟩ = some (.int .i64 0) := T5.c 1 (by omega)
            have z2 : w5.cell? ⟨wr.heap.size, 2, none⟩ = some (.int .u8 0) := T5.c 2 (by omega)
            have z3 : w5.cell? ⟨wr.heap.size, 3, none⟩ = some (.int .u8 0) := T5.c 3 (by omega)
            have z4 : w5.cell? ⟨wr.heap.size, 4, none⟩ = some (.pointer none) := T5.c 4 (by omega)
            have z5 : w5.cell? ⟨wr.heap.size, 5, none⟩ = some (.slice none 0 0) := T5.c 5 (by omega)
            have z6 : w5.cell? ⟨wr.heap.size, 6, none⟩ = some (.slice none 0 0) := T5.c 6 (by omega)
            have z7 : w5.cell? ⟨wr.heap.size, 7, none⟩ = some (.slice none 0 0) := T5.c 7 (by omega)
            have zf := T5.fz
            have HT5 := hideIt T5
            clear T5
            have HX5 := hideIt (And.intro KA (And.intro RE5 W5))
            clear KA RE5 W5
            clear hHeld
            refine hK'.out _ _ y5 (fun hHeld => ?_)
            clear hK' K'
            try simp only [Act.put, List.setIfInBounds_toArray, List.set_cons_zero, List.set_cons_succ]
            refine wpAnyH_ready (rs := [15]) (by kernel_rfl) (by simp) ?_
            refine AllReadyH.cons (o := { dst := none, op := Go.Op.store 191 (Go.Operand.tmp 12) (Go.Operand.tmp 57), type := 0, pos := _, after := #[{ on := 14, ground := Go.Ground.data }, { on := 13, ground := Go.Ground.data }, { on := 13, ground := Go.Ground.chain }, { on := 0, ground := Go.Ground.phase }, { on := 1, ground := Go.Ground.phase }, { on := 2, ground := Go.Ground.phase }, { on := 3, ground := Go.Ground.phase }, { on := 4, ground := Go.Ground.phase }, { on := 5, ground := Go.Ground.phase }, { on := 6, ground := Go.Ground.phase }, { on := 7, ground := Go.Ground.phase }, { on := 8, ground := Go.Ground.phase }, { on := 9, ground := Go.Ground.phase }, { on := 10, ground := Go.Ground.phase }, { on := 11, ground := Go.Ground.phase }, { on := 12, ground := Go.Ground.phase }, { on := 13, ground := Go.Ground.phase }, { on := 14, ground := Go.Ground.phase }], guard := none }) rfl (fun K' hK' => ?_) AllReadyH.nil
            go_simp
            clear hHeld
            refine hK'.out _ _ ((World.cell?_of_block (a := ⟨J.ρ.RB, 4, none⟩) (have HH : J.ρ.RB ≠ wr.heap.size := (by omega); (far_set HH).trans ((far_set HH).trans ((far_set HH).trans ((far_set HH).trans ((far_set HH).trans ((far_set HH).trans ((far_set HH).trans (far_set HH))))))))).trans y5) (fun hHeld => ?_)
            clear hK' K'
            try simp only [Act.put, List.setIfInBounds_toArray, List.set_cons_zero, List.set_cons_succ]
            refine wpAnyH_done (by kernel_rfl) ?_ _
            go_wp2
            go_meet
            case rel =>
              obtain ⟨KA, RE5, W5⟩ := HX5.out
              have bN := one_alloc wr (.cells #[.pointer none, .int .i64 0, .int .u8 0, .int .u8 0, .pointer none, .slice none 0 0, .slice none 0 0, .slice none 0 0] 191)
              have W6 : Ws (fun q => q = FL ∨ q = J.rq ∨ q = J.E) (wr.alloc (.cells #[.pointer none, .int .i64 0, .int .u8 0, .int .u8 0, .pointer none, .slice none 0 0, .slice none 0 0, .slice none 0 0] 191)) w5 := ⟨W5.os, W5.tape, W5.output, W5.size, W5.block⟩
              have W5' : Ws (fun q => q = FL ∨ q = J.rq ∨ q = J.E) wr w5 := (Ws.of_below bN).trans W6
              have hs5 := W5'.size
              have hs6 : wr.heap.size + 1 ≤ w5.heap.size := by have := W6.size; simp at this; omega
              have hz1 : (wr.alloc (.cells #[.pointer none, .int .i64 0, .int .u8 0, .int .u8 0, .pointer none, .slice none 0 0, .slice none 0 0, .slice none 0 0] 191)).heap.size = wr.heap.size + 1 := by simp
              have hz2 : (wr.alloc (.cells #[.pointer none, .int .i64 0, .int .u8 0, .int .u8 0, .pointer none, .slice none 0 0, .slice none 0 0, .slice none 0 0] 191)).drew.drew.heap.size = wr.heap.size + 1 := hz1
              refine ⟨wr.heap.size, X5, h5, .pointer ia, .slice pk nk ck, .slice pa na ca, rfl, hideIt ⟨HT5.out.fillI _ _ _ _ _, ⟨_, w5.heap.size, KA.keep (fun q h1 _ => have HH : q ≠ wr.heap.size := (by rw [hz2] at h1; omega); (far_set HH).trans ((far_set HH).trans ((far_set HH).trans ((far_set HH).trans ((far_set HH).trans ((far_set HH).trans ((far_set HH).trans (far_set HH)))))))), by omega, by simp, by omega⟩, RE5.keep (have HH : FL ≠ wr.heap.size := (by omega); (far_set HH).trans ((far_set HH).trans ((far_set HH).trans ((far_set HH).trans ((far_set HH).trans ((far_set HH).trans ((far_set HH).trans (far_set HH)))))))) (have HH : J.E ≠ wr.heap.size := (by omega); (far_set HH).trans ((far_set HH).trans ((far_set HH).trans ((far_set HH).trans ((far_set HH).trans ((far_set HH).trans ((far_set HH).trans (far_set HH)))))))) (have HH : J.rq ≠ wr.heap.size := (by omega); (far_set HH).trans ((far_set HH).trans ((far_set HH).trans ((far_set HH).trans ((far_set HH).trans ((far_set HH).trans ((far_set HH).trans (far_set HH)))))))), ((((((((W5'.set (.inr (Nat.le_refl _))).set (.inr (Nat.le_refl _))).set (.inr (Nat.le_refl _))).set (.inr (Nat.le_refl _))).set (.inr (Nat.le_refl _))).set (.inr (Nat.le_refl _))).set (.inr (Nat.le_refl _))).set (.inr (Nat.le_refl _)))⟩, Nat.le_refl _, by simp; omega⟩
        · go_simp
          clear hHeld
          refine hK'.out _ _ y4a (fun hHeld => ?_)
          clear hK' K'
          try simp only [Act.put, List.setIfInBounds_toArray, List.set_cons_zero, List.set_cons_succ]
          refine wpAnyH_ready (rs := [11]) (by kernel_rfl) (by simp) ?_
          refine AllReadyH.cons (o := { dst := some 55, op := Go.Op.call { callee := Go.Callee.value (Go.Operand.func 61), args := #[Go.Operand.tmp 51, Go.Operand.tmp 52, Go.Operand.tmp 53, Go.Operand.tmp 54], argTypes := #[162, 92, 3, 3] }, type := 186, pos := _, after := #[{ on := 7, ground := Go.Ground.data }, { on := 8, ground := Go.Ground.data }, { on := 9, ground := Go.Ground.data }, { on := 10, ground := Go.Ground.data }], guard := none }) rfl (fun K' hK' => ?_) AllReadyH.nil
          go_simp
          go_at_call 61
          refine (window_any _ _ _).mono ?_
          rintro e w8 ⟨rfl, rfl⟩
          clear hHeld
          refine hK'.out _ _ y4a (fun hHeld => ?_)
          clear hK' K'
          try simp only [Act.put, List.setIfInBounds_toArray, List.set_cons_zero, List.set_cons_succ]
          refine wpAnyH_ready (rs := [13]) (by kernel_rfl) (by simp) ?_
          refine AllReadyH.cons (o := { dst := some 57, op := Go.Op.call { callee := Go.Callee.value (Go.Operand.func 60), args := #[Go.Operand.tmp 44, Go.Operand.tmp 50, Go.Operand.tmp 55, Go.Operand.tmp 56], argTypes := #[162, 185, 186, 138] }, type := 191, pos := _, after := #[{ on := 0, ground := Go.Ground.data }, { on := 6, ground := Go.Ground.data }, { on := 11, ground := Go.Ground.data }, { on := 12, ground := Go.Ground.data }, { on := 11, ground := Go.Ground.chain }], guard := none }) rfl (fun K' hK' => ?_) AllReadyH.nil
          go_simp
          go_at_call 60
          refine (hst (wr.alloc (.cells #[.pointer none, .int .i64 0, .int .u8 0, .int .u8 0, .pointer none, .slice none 0 0, .slice none 0 0, .slice none 0 0] 191)).drew.drew (below_dr (below_dr (one_alloc _ _)))).mono ?_
          rintro e w5 ⟨X5, h5, ix5, kv, av, rfl, KA, RE5, W5⟩
          have y5 : w5.cell? ⟨J.ρ.RB, 4, none⟩ = some (.slice (some ⟨J.ρ.gj, 0, none⟩) 2 J.ρ.cj) := (World.cell?_of_block (a := ⟨J.ρ.RB, 4, none⟩) (W5.block J.ρ.RB hRBa hRBF)).trans y4a
          obtain ⟨⟨pk, nk, ck, rfl⟩, ⟨pa, na, ca, rfl⟩, ⟨ia, rfl⟩⟩ := KA.shape
          have T5 : StB w5 wr.heap.size (stV (.pointer none) (.int .u8 0) (.slice none 0 0) (.slice none 0 0)) := TZ.blk (W5.block wr.heap.size (show wr.heap.size < (wr.alloc (.cells #[.pointer none, .int .i64 0, .int .u8 0, .int .u8 0, .pointer none, .slice none 0 0, .slice none 0 0, .slice none 0 0] 191)).heap.size by simp) (by omega))
          have z0 : w5.cell? ⟨wr.heap.size, 0, none⟩ = some (.pointer none) := T5.c 0 (by omega)
          have z1 : w5.cell? ⟨wr.heap.size, 1, none⟩ = some (.int .i64 0) := T5.c 1 (by omega)
          have z2 : w5.cell? ⟨wr.heap.size, 2, none⟩ = some (.int .u8 0) := T5.c 2 (by omega)
          have z3 : w5.cell? ⟨wr.heap.size, 3, none⟩ = some (.int .u8 0) := T5.c 3 (by omega)
          have z4 : w5.cell? ⟨wr.heap.size, 4, none⟩ = some (.pointer none) := T5.c 4 (by omega)
          have z5 : w5.cell? ⟨wr.heap.size, 5, none⟩ = some (.slice none 0 0) := T5.c 5 (by omega)
          have z6 : w5.cell? ⟨wr.heap.size, 6, none⟩ = some (.slice none 0 0) := T5.c 6 (by omega)
          have z7 : w5.cell? ⟨wr.heap.size, 7, none⟩ = some (.slice none 0 0) := T5.c 7 (by omega)
          have zf := T5.fz
          have HT5 := hideIt T5
          clear T5
          have HX5 := hideIt (And.intro KA (And.intro RE5 W5))
          clear KA RE5 W5
          clear hHeld
          refine hK'.out _ _ y5 (fun hHeld => ?_)
          clear hK' K'
          try simp only [Act.put, List.setIfInBounds_toArray, List.set_cons_zero, List.set_cons_succ]
          refine wpAnyH_ready (rs := [15]) (by kernel_rfl) (by simp) ?_
          refine AllReadyH.cons (o := { dst := none, op := Go.Op.store 191 (Go.Operand.tmp 12) (Go.Operand.tmp 57), type := 0, pos := _, after := #[{ on := 14, ground := Go.Ground.data }, { on := 13, ground := Go.Ground.data }, { on := 13, ground := Go.Ground.chain }, { on := 0, ground := Go.Ground.phase }, { on := 1, ground := Go.Ground.phase }, { on := 2, ground := Go.Ground.phase }, { on := 3, ground := Go.Ground.phase }, { on := 4, ground := Go.Ground.phase }, { on := 5, ground := Go.Ground.phase }, { on := 6, ground := Go.Ground.phase }, { on := 7, ground := Go.Ground.phase }, { on := 8, ground := Go.Ground.phase }, { on := 9, ground := Go.Ground.phase }, { on := 10, ground := Go.Ground.phase }, { on := 11, ground := Go.Ground.phase }, { on := 12, ground := Go.Ground.phase }, { on := 13, ground := Go.Ground.phase }, { on := 14, ground := Go.Ground.phase }], guard := none }) rfl (fun K' hK' => ?_) AllReadyH.nil
          go_simp
          clear hHeld
          refine hK'.out _ _ ((World.cell?_of_block (a := ⟨J.ρ.RB, 4, none⟩) (have HH : J.ρ.RB ≠ wr.heap.size := (by omega); (far_set HH).trans ((far_set HH).trans ((far_set HH).trans ((far_set HH).trans ((far_set HH).trans ((far_set HH).trans ((far_set HH).trans (far_set HH))))))))).trans y5) (fun hHeld => ?_)
          clear hK' K'
          try simp only [Act.put, List.setIfInBounds_toArray, List.set_cons_zero, List.set_cons_succ]
          refine wpAnyH_done (by kernel_rfl) ?_ _
          go_wp2
          go_meet
          case rel =>
            obtain ⟨KA, RE5, W5⟩ := HX5.out
            have bN := one_alloc wr (.cells #[.pointer none, .int .i64 0, .int .u8 0, .int .u8 0, .pointer none, .slice none 0 0, .slice none 0 0, .slice none 0 0] 191)
            have W6 : Ws (fun q => q = FL ∨ q = J.rq ∨ q = J.E) (wr.alloc (.cells #[.pointer none, .int .i64 0, .int .u8 0, .int .u8 0, .pointer none, .slice none 0 0, .slice none 0 0, .slice none 0 0] 191)) w5 := ⟨W5.os, W5.tape, W5.output, W5.size, W5.block⟩
            have W5' : Ws (fun q => q = FL ∨ q = J.rq ∨ q = J.E) wr w5 := (Ws.of_below bN).trans W6
            have hs5 := W5'.size
            have hs6 : wr.heap.size + 1 ≤ w5.heap.size := by have := W6.size; simp at this; omega
            have hz1 : (wr.alloc (.cells #[.pointer none, .int .i64 0, .int .u8 0, .int .u8 0, .pointer none, .slice none 0 0, .slice none 0 0, .slice none 0 0] 191)).heap.size = wr.heap.size + 1 := by simp
            have hz2 : (wr.alloc (.cells #[.pointer none, .int .i64 0, .int .u8 0, .int .u8 0, .pointer none, .slice none 0 0, .slice none 0 0, .slice none 0 0] 191)).drew.drew.heap.size = wr.heap.size + 1 := hz1
            refine ⟨wr.heap.size, X5, h5, .pointer ia, .slice pk nk ck, .slice pa na ca, rfl, hideIt ⟨HT5.out.fillI _ _ _ _ _, ⟨_, w5.heap.size, KA.keep (fun q h1 _ => have HH : q ≠ wr.heap.size := (by rw [hz2] at h1; omega); (far_set HH).trans ((far_set HH).trans ((far_set HH).trans ((far_set HH).trans ((far_set HH).trans ((far_set HH).trans ((far_set HH).trans (far_set HH)))))))), by omega, by simp, by omega⟩, RE5.keep (have HH : FL ≠ wr.heap.size := (by omega); (far_set HH).trans ((far_set HH).trans ((far_set HH).trans ((far_set HH).trans ((far_set HH).trans ((far_set HH).trans ((far_set HH).trans (far_set HH)))))))) (have HH : J.E ≠ wr.heap.size := (by omega); (far_set HH).trans ((far_set HH).trans ((far_set HH).trans ((far_set HH).trans ((far_set HH).trans ((far_set HH).trans ((far_set HH).trans (far_set HH)))))))) (have HH : J.rq ≠ wr.heap.size := (by omega); (far_set HH).trans ((far_set HH).trans ((far_set HH).trans ((far_set HH).trans ((far_set HH).trans ((far_set HH).trans ((far_set HH).trans (far_set HH)))))))), ((((((((W5'.set (.inr (Nat.le_refl _))).set (.inr (Nat.le_refl _))).set (.inr (Nat.le_refl _))).set (.inr (Nat.le_refl _))).set (.inr (Nat.le_refl _))).set (.inr (Nat.le_refl _))).set (.inr (Nat.le_refl _))).set (.inr (Nat.le_refl _)))⟩, Nat.le_refl _, by simp; omega⟩
      case rest =>
      clear y4 co HST
      obtain ⟨SB, X5, h5, ix5, kv, av, rfl, HZ, hSB, hSBl⟩ := hcut
      obtain ⟨T, ⟨lo, hi', KA, hlo, hhi, hnS⟩, REc, Wc⟩ := HZ.out
      have hwc := Wc.size
      obtain ⟨⟨pk, nk, ck, rfl⟩, ⟨pa, na, ca, rfl⟩, ⟨ia, rfl⟩⟩ := KA.shape
      have s1 : wc.cell? ⟨SB, 1, none⟩ = some (.int .i64 0) := T.c 1 (by omega)
      have s7 : wc.cell? ⟨SB, 7, none⟩ = some (.slice none 0 0) := T.c 7 (by omega)
      have sf := T.fz
      have hRBS : J.ρ.RB ≠ SB := by omega
      have y5' : (wc.setCell ⟨SB, 1, none⟩ (.int .i64 (k : Int))).cell? ⟨J.ρ.RB, 5, none⟩ = some (.slice none 0 0) := (World.cell?_of_block (a := ⟨J.ρ.RB, 5, none⟩) ((far_set hRBS).trans (Wc.block J.ρ.RB hRBw hRBF))).trans y5
      have hrp := fun fv pv => ripe_any fv pv y5'
      have HZ2 := hideIt (And.intro T (And.intro KA (And.intro REc (And.intro Wc hnS))))
      clear T KA REc Wc y5 y5' HZ hnS
      go_wp2_with fail
      refine (hrp _ _).mono ?_
      rintro e wq ⟨rfl, ew⟩
      replace ew := ew.symm
      subst ew
      clear hrp
      go_upto_region 11 with fail
      obtain ⟨T, KA, REc, Wc, hnS⟩ := HZ2.out
      obtain ⟨I, RE, W, hYlo, hsvlo⟩ := HI.out
      have ff : ∀ q, q ≠ SB → ((wc.setCell ⟨SB, 1, none⟩ (.int .i64 (k : Int))).setCell ⟨SB, 7, none⟩ (.slice none 0 0)).heap[q]? = wc.heap[q]? := fun q z => (far_set z).trans (far_set z)
      have fw : ∀ q, q < wr.heap.size → q ≠ FL → q ≠ J.rq → q ≠ J.E → ((wc.setCell ⟨SB, 1, none⟩ (.int .i64 (k : Int))).setCell ⟨SB, 7, none⟩ (.slice none 0 0)).heap[q]? = wr.heap[q]? := fun q z1 z2 z3 z4 => (ff q (by omega)).trans (Wc.block q z1 (fun e => by rcases e with e | e | e; exact z2 e; exact z3 e; exact z4 e))
      have hs6 : wc.heap.size = ((wc.setCell ⟨SB, 1, none⟩ (.int .i64 (k : Int))).setCell ⟨SB, 7, none⟩ (.slice none 0 0)).heap.size := by simp
      have I6 : PlI ((wc.setCell ⟨SB, 1, none⟩ (.int .i64 (k : Int))).setCell ⟨SB, 7, none⟩ (.slice none 0 0)) P J X5 k sv Y := (I.chX (by omega) X5).keep2 (base := w4.heap.size) (by omega) hYlo hsvlo (fun q z1 z2 => fw q z1 (by omega) (by omega) (by omega))
      have KA6 : KaJ ((wc.setCell ⟨SB, 1, none⟩ (.int .i64 (k : Int))).setCell ⟨SB, 7, none⟩ (.slice none 0 0)) lo hi' J X5 k h5 (.pointer ia) (.slice pk nk ck) (.slice pa na ca) := KA.keep (fun q z1 z2 => ff q (fun e => hnS (by omega)))
      have R6 : REJ ((wc.setCell ⟨SB, 1, none⟩ (.int .i64 (k : Int))).setCell ⟨SB, 7, none⟩ (.slice none 0 0)) FL J X5 (k + 1) := REc.keep (ff FL (by omega)) (ff J.E (by omega)) (ff J.rq (by omega))
      have T6 := (T.put (k := 1) (by omega) (.int .i64 (k : Int))).put (k := 7) (by omega) (.slice none 0 0)
      have W6 : Ws (fun q => q = P ∨ q = FL ∨ q = J.rq ∨ q = J.E) wr ((wc.setCell ⟨SB, 1, none⟩ (.int .i64 (k : Int))).setCell ⟨SB, 7, none⟩ (.slice none 0 0)) := ⟨Wc.os, Wc.tape, Wc.output, by omega, fun q z1 z2 => fw q z1 (fun e => z2 (.inr (.inl e))) (fun e => z2 (.inr (.inr (.inl e)))) (fun e => z2 (.inr (.inr (.inr e))))⟩
      have hdk : ∀ q, sv.ownBlock = some q → ¬ (lo ≤ q ∧ q < hi') := fun q hq e => by have := (I.own.lt q hq).2; omega
      have hrS' : sv.ownBlock ≠ some SB := fun e => by have := (I.own.lt SB e).2; omega
      have hhi6 : hi' ≤ ((wc.setCell ⟨SB, 1, none⟩ (.int .i64 (k : Int))).setCell ⟨SB, 7, none⟩ (.slice none 0 0)).heap.size := by omega
      have hPS : SB < ((wc.setCell ⟨SB, 1, none⟩ (.int .i64 (k : Int))).setCell ⟨SB, 7, none⟩ (.slice none 0 0)).heap.size := by omega
      have hwd6 : wr.heap.size ≤ ((wc.setCell ⟨SB, 1, none⟩ (.int .i64 (k : Int))).setCell ⟨SB, 7, none⟩ (.slice none 0 0)).heap.size := by omega
      clear T KA REc Wc hnS I RE ff fw s1 s7 sf HZ2 HI hs6
      generalize ((wc.setCell ⟨SB, 1, none⟩ (.int .i64 (k : Int))).setCell ⟨SB, 7, none⟩ (.slice none 0 0)) = wd at *
      obtain ⟨vs, cs, rfl⟩ := own_shape I6.own
      have j3 := I6.c3
      have fzd := I6.fz
      have hPd : P < wd.heap.size := by omega
      have hrP : some P ≠ (Value.slice vs k cs).ownBlock := fun e => by have := (I6.own.lt P e.symm).1; omega
      have hrS : some SB ≠ (Value.slice vs k cs).ownBlock := fun e => hrS' e.symm
      have e0 : wd.cell? ⟨SB, 0, none⟩ = some (.pointer (some ⟨J.ρ.gj, k * 3, none⟩)) := T6.c 0 (by omega)
      have e1 : wd.cell? ⟨SB, 1, none⟩ = some (.int .i64 (k : Int)) := T6.c 1 (by omega)
      have e2 : wd.cell? ⟨SB, 2, none⟩ = some (.int .u8 0) := T6.c 2 (by omega)
      have e3 : wd.cell? ⟨SB, 3, none⟩ = some (.int .u8 h5) := T6.c 3 (by omega)
      have e4 : wd.cell? ⟨SB, 4, none⟩ = some (.pointer ia) := T6.c 4 (by omega)
      have e5 : wd.cell? ⟨SB, 5, none⟩ = some (.slice pk nk ck) := T6.c 5 (by omega)
      have e6 : wd.cell? ⟨SB, 6, none⟩ = some (.slice pa na ca) := T6.c 6 (by omega)
      have e7 : wd.cell? ⟨SB, 7, none⟩ = some (.slice none 0 0) := T6.c 7 (by omega)
      have HOWN := hideIt I6.own
      have HN := hideIt (And.intro I6 (And.intro KA6 (And.intro R6 (And.intro W6 (And.intro W (And.intro hdk (And.intro hYlo hsvlo)))))))
      clear I6 KA6 R6 W6 W T6 hdk hrS' hYlo hsvlo
      refine wp_region_l (l := 10) (S := (fun w' => w'.cell? ⟨P, 3, none⟩ = some (.slice vs k cs) ∧ w'.cell? ⟨SB, 0, none⟩ = some (.pointer (some ⟨J.ρ.gj, k * 3, none⟩)) ∧ w'.cell? ⟨SB, 1, none⟩ = some (.int .i64 (k : Int)) ∧ w'.cell? ⟨SB, 2, none⟩ = some (.int .u8 0) ∧ w'.cell? ⟨SB, 3, none⟩ = some (.int .u8 h5) ∧ w'.cell? ⟨SB, 4, none⟩ = some (.pointer ia) ∧ w'.cell? ⟨SB, 5, none⟩ = some (.slice pk nk ck) ∧ w'.cell? ⟨SB, 6, none⟩ = some (.slice pa na ca) ∧ w'.cell? ⟨SB, 7, none⟩ = some (.slice none 0 0))) (by kernel_rfl) ⟨j3, e0, e1, e2, e3, e4, e5, e6, e7⟩ (fun hHeld => ?_)
      refine AnyL.take2 (i := 0) (oi := { dst := some 65, op := Go.Op.move (Go.Operand.tmp 7), type := 166, pos := _, after := #[], guard := none }) (v := ?vv33501) (by kernel_rfl) (by kernel_rfl) rfl (by kernel_rfl) (by kernel_rfl) (by kernel_rfl) (fun _ _ _ h => h) (Or.inl ⟨by rfl, ?hy33501⟩) (by assumption) ?tk33501
      case hy33501 => (intro w hSw; (try dsimp only at hSw); go_simp; (try with_reducible rfl))
      try simp only [Act.put, List.setIfInBounds_toArray, List.set_cons_zero, List.set_cons_succ]
      refine AnyL.take2 (i := 1) (oi := { dst := some 66, op := Go.Op.move (Go.Operand.tmp 7), type := 166, pos := _, after := #[], guard := none }) (v := ?vv33502) (by kernel_rfl) (by kernel_rfl) rfl (by kernel_rfl) (by kernel_rfl) (by kernel_rfl) (fun _ _ _ h => h) (Or.inl ⟨by rfl, ?hy33502⟩) (by assumption) ?tk33502
      case hy33502 => (intro w hSw; (try dsimp only at hSw); go_simp; (try with_reducible rfl))
      try simp only [Act.put, List.setIfInBounds_toArray, List.set_cons_zero, List.set_cons_succ]
      refine AnyL.take2 (i := 2) (oi := { dst := some 67, op := Go.Op.nilCheck (Go.Operand.tmp 66), type := 0, pos := _, after := #[{ on := 1, ground := Go.Ground.data }], guard := none }) (v := ?vv33503) (by kernel_rfl) (by kernel_rfl) rfl (by kernel_rfl) (by kernel_rfl) (by kernel_rfl) (fun _ _ _ h => h) (Or.inl ⟨by rfl, ?hy33503⟩) (by assumption) ?tk33503
      case hy33503 => (intro w hSw; (try dsimp only at hSw); go_simp; (try with_reducible rfl))
      try simp only [Act.put, List.setIfInBounds_toArray, List.set_cons_zero, List.set_cons_succ]
      refine AnyL.take2 (i := 3) (oi := { dst := some 68, op := Go.Op.fieldAddr 182 (Go.Operand.tmp 67) 3, type := 0, pos := _, after := #[{ on := 2, ground := Go.Ground.data }], guard := none }) (v := ?vv33504) (by kernel_rfl) (by kernel_rfl) rfl (by kernel_rfl) (by kernel_rfl) (by kernel_rfl) (fun _ _ _ h => h) (Or.inl ⟨by rfl, ?hy33504⟩) (by assumption) ?tk33504
      case hy33504 => (intro w hSw; (try dsimp only at hSw); go_simp; (try with_reducible rfl))
      try simp only [Act.put, List.setIfInBounds_toArray, List.set_cons_zero, List.set_cons_succ]
      refine AnyL.take2 (i := 4) (oi := { dst := some 69, op := Go.Op.load 180 (Go.Operand.tmp 68), type := 180, pos := _, after := #[{ on := 3, ground := Go.Ground.data }], guard := none }) (v := ?vv33505) (by kernel_rfl) (by kernel_rfl) rfl (by kernel_rfl) (by kernel_rfl) (by kernel_rfl) (fun _ _ _ h => h) (Or.inl ⟨by rfl, ?hy33505⟩) (by assumption) ?tk33505
      case hy33505 => (intro w hSw; (try dsimp only at hSw); go_simp; (try with_reducible rfl))
      try simp only [Act.put, List.setIfInBounds_toArray, List.set_cons_zero, List.set_cons_succ]
      refine AnyL.take2 (i := 5) (oi := { dst := some 70, op := Go.Op.load 191 (Go.Operand.tmp 12), type := 191, pos := _, after := #[], guard := none }) (v := ?vv33506) (by kernel_rfl) (by kernel_rfl) rfl (by kernel_rfl) (by kernel_rfl) (by kernel_rfl) (fun _ _ _ h => h) (Or.inl ⟨by rfl, ?hy33506⟩) (by assumption) ?tk33506
      case hy33506 => (intro w hSw; (try dsimp only at hSw); go_simp; (try with_reducible rfl))
      try simp only [Act.put, List.setIfInBounds_toArray, List.set_cons_zero, List.set_cons_succ]
      refine AnyL.one (i := 6) (o := { dst := some 71, op := Go.Op.buildSlice 180 1 #[(0, Go.Operand.tmp 70)], type := 180, pos := _, after := #[{ on := 5, ground := Go.Ground.data }], guard := none }) (by kernel_rfl) rfl rfl (fun K' hK' => ?_)
      go_simp
      clear hHeld
      refine hK'.out _ _ ⟨cell_later (below_dr (one_alloc _ _)) j3, cell_later (below_dr (one_alloc _ _)) e0, cell_later (below_dr (one_alloc _ _)) e1, cell_later (below_dr (one_alloc _ _)) e2, cell_later (below_dr (one_alloc _ _)) e3, cell_later (below_dr (one_alloc _ _)) e4, cell_later (below_dr (one_alloc _ _)) e5, cell_later (below_dr (one_alloc _ _)) e6, cell_later (below_dr (one_alloc _ _)) e7⟩ (fun hHeld => ?_)
      clear hK' K'
      try simp only [Act.put, List.setIfInBounds_toArray, List.set_cons_zero, List.set_cons_succ]
      refine AnyL.one (i := 7) (o := { dst := some 72, op := Go.Op.call { callee := Go.Callee.builtin Go.Builtin.append, args := #[Go.Operand.tmp 69, Go.Operand.tmp 71], argTypes := #[180, 180] }, type := 180, pos := _, after := #[{ on := 4, ground := Go.Ground.data }, { on := 6, ground := Go.Ground.data }], guard := none }) (by kernel_rfl) rfl rfl (fun K' hK' => ?_)
      refine ite_take (by rfl) ?_
      refine wp_append_own_at (.tmp 69) (.tmp 71) 180 rfl (P + 1) 191 i9 ((.agg #[.pointer none, .int .i64 0, .int .u8 0, .int .u8 0, .pointer none, .slice none 0 0, .slice none 0 0, .slice none 0 0])) 8 104 Tryz.underlying180 hi9 hx0 hx1 hx2 rfl (by decide) (.slice vs k cs) k (stC J.ρ.gj Y k) rfl (HOWN.out.alloc _) ⟨wd.heap.size, 0, none⟩ 1 1 [.pointer (some ⟨J.ρ.gj, k * 3, none⟩), .int .i64 (k : Int), .int .u8 0, .int .u8 h5, .pointer ia, .slice pk nk ck, .slice pa na ca, .slice none 0 0] rfl rfl (cell_new_8 _ _ _ _ _ _ _ _ _ _) (by simp [Value.oneCell']) (by unfold maxLen; omega) (by omega) (by simp <;> omega) ?_
      intro v' w3 hown' hgrow hblk
      obtain ⟨p', c', rfl⟩ := own_shape hown'
      have kk0 := hgrow.cell (a := ⟨P, 3, none⟩) (hHeld.1) hrP
      have kk1 := hgrow.cell (a := ⟨SB, 0, none⟩) (hHeld.2.1) hrS
      have kk2 := hgrow.cell (a := ⟨SB, 1, none⟩) (hHeld.2.2.1) hrS
      have kk3 := hgrow.cell (a := ⟨SB, 2, none⟩) (hHeld.2.2.2.1) hrS
      have kk4 := hgrow.cell (a := ⟨SB, 3, none⟩) (hHeld.2.2.2.2.1) hrS
      have kk5 := hgrow.cell (a := ⟨SB, 4, none⟩) (hHeld.2.2.2.2.2.1) hrS
      have kk6 := hgrow.cell (a := ⟨SB, 5, none⟩) (hHeld.2.2.2.2.2.2.1) hrS
      have kk7 := hgrow.cell (a := ⟨SB, 6, none⟩) (hHeld.2.2.2.2.2.2.2.1) hrS
      have kk8 := hgrow.cell (a := ⟨SB, 7, none⟩) (hHeld.2.2.2.2.2.2.2.2) hrS
      have fz3 : ∀ o, w3.frozen? ⟨P, o, none⟩ = false := fun o => ((World.frozen?_of_block (a := ⟨P, o, none⟩) (hgrow.block P (by simp; omega) hrP)).trans (World.frozen?_of_block (a := ⟨P, o, none⟩) ((one_alloc wd _).block P hPd))).trans (fzd o)
      have HG := hideIt (And.intro hown' (And.intro hgrow hblk))
      clear hown' hgrow hblk
      clear hHeld
      refine hK'.out _ _ ⟨kk0, kk1, kk2, kk3, kk4, kk5, kk6, kk7, kk8⟩ (fun hHeld => ?_)
      clear hK' K'
      try simp only [Act.put, List.setIfInBounds_toArray, List.set_cons_zero, List.set_cons_succ]
      refine AnyL.take2 (i := 8) (oi := { dst := some 73, op := Go.Op.nilCheck (Go.Operand.tmp 65), type := 0, pos := _, after := #[{ on := 0, ground := Go.Ground.data }, { on := 0, ground := Go.Ground.phase }, { on := 1, ground := Go.Ground.phase }, { on := 2, ground := Go.Ground.phase }, { on := 3, ground := Go.Ground.phase }, { on := 4, ground := Go.Ground.phase }, { on := 5, ground := Go.Ground.phase }, { on := 6, ground := Go.Ground.phase }, { on := 7, ground := Go.Ground.phase }], guard := none }) (v := ?vv33507) (by kernel_rfl) (by kernel_rfl) rfl (by kernel_rfl) (by kernel_rfl) (by kernel_rfl) (fun _ _ _ h => h) (Or.inl ⟨by rfl, ?hy33507⟩) (by assumption) ?tk33507
      case hy33507 => (intro w hSw; (try dsimp only at hSw); go_simp; (try with_reducible rfl))
      try simp only [Act.put, List.setIfInBounds_toArray, List.set_cons_zero, List.set_cons_succ]
      refine AnyL.take2 (i := 9) (oi := { dst := some 74, op := Go.Op.fieldAddr 182 (Go.Operand.tmp 73) 3, type := 0, pos := _, after := #[{ on := 8, ground := Go.Ground.data }, { on := 0, ground := Go.Ground.phase }, { on := 1, ground := Go.Ground.phase }, { on := 2, ground := Go.Ground.phase }, { on := 3, ground := Go.Ground.phase }, { on := 4, ground := Go.Ground.phase }, { on := 5, ground := Go.Ground.phase }, { on := 6, ground := Go.Ground.phase }, { on := 7, ground := Go.Ground.phase }], guard := none }) (v := ?vv33508) (by kernel_rfl) (by kernel_rfl) rfl (by kernel_rfl) (by kernel_rfl) (by kernel_rfl) (fun _ _ _ h => h) (Or.inl ⟨by rfl, ?hy33508⟩) (by assumption) ?tk33508
      case hy33508 => (intro w hSw; (try dsimp only at hSw); go_simp; (try with_reducible rfl))
      try simp only [Act.put, List.setIfInBounds_toArray, List.set_cons_zero, List.set_cons_succ]
      refine AnyL.last (o := { dst := none, op := Go.Op.store 180 (Go.Operand.tmp 74) (Go.Operand.tmp 72), type := 0, pos := _, after := #[{ on := 9, ground := Go.Ground.data }, { on := 7, ground := Go.Ground.data }, { on := 7, ground := Go.Ground.chain }, { on := 0, ground := Go.Ground.phase }, { on := 1, ground := Go.Ground.phase }, { on := 2, ground := Go.Ground.phase }, { on := 3, ground := Go.Ground.phase }, { on := 4, ground := Go.Ground.phase }, { on := 5, ground := Go.Ground.phase }, { on := 6, ground := Go.Ground.phase }, { on := 7, ground := Go.Ground.phase }], guard := none }) (by kernel_rfl) rfl (by kernel_rfl) (fun K' hK' => ?_)
      go_simp
      clear hHeld
      refine hK'.out _ _ ?_
      clear hK' K'
      try simp only [Act.put, List.setIfInBounds_toArray, List.set_cons_zero, List.set_cons_succ]
      go_wp2
      go_roundg (2 - (k + 1))
      case measure => omega
      case rel =>
        obtain ⟨I6, KA6, R6, W6, W, hdk, hYlo, hsvlo⟩ := HN.out
        obtain ⟨hown', hgrow, hblk⟩ := HG.out
        have bDA := below_dr (one_alloc wd (.cells #[.pointer (some ⟨J.ρ.gj, k * 3, none⟩), .int .i64 (k : Int), .int .u8 0, .int .u8 h5, .pointer ia, .slice pk nk ck, .slice pa na ca, .slice none 0 0] 191))
        have hsz := bDA.size
        have hsz3 := hgrow.size
        have I7 := I6.push KA6 ⟨by omega, hhi6⟩ hdk hown' bDA hgrow hblk
        have kp5 : ∀ q, q < w4.heap.size → q ≠ P → (w3.setCell ⟨P, 3, none⟩ (.slice p' (k + 1) c')).heap[q]? = wd.heap[q]? := fun q z1 z2 => (far_set z2).trans ((hgrow.block q (by omega) (fun e => by have := hsvlo q e.symm; omega)).trans (bDA.block q (by omega)))
        refine ⟨k + 1, by omega, by go_num, X5, _, _, I7, R6.keep (kp5 FL (by omega) (by omega)) (kp5 J.E (by omega) (by omega)) (kp5 J.rq (by omega) (by omega)), ?_, fun j hj => ?_, fun q hq => ?_⟩
        · have W46 := W.trans W6
          exact ⟨hgrow.os.trans (bDA.os.trans W46.os), hgrow.tape.trans (bDA.tape.trans W46.tape), hgrow.output.trans (bDA.output.trans W46.output), by simp; omega, fun q z1 z2 => (kp5 q z1 (fun e => z2 (.inl e))).trans (W46.block q z1 z2)⟩
        · show w4.heap.size ≤ updN Y.lo k lo j
          by_cases z : j = k
          · rw [z, updN_same]; omega
          · rw [updN_other _ _ z]; exact hYlo j (by omega)
        · rcases hblk with z | z
          · exact hsvlo q (z ▸ hq)
          · rw [z] at hq
            have := Option.some.inj hq
            omega
    · have hkm : k = 2 := by omega
      subst hkm
      have HI := hideIt (And.intro I (And.intro RE W))
      clear I RE W hk hin hYlo hsvlo
      go_wp2
      go_ret
      obtain ⟨I, RE, W⟩ := HI.out
      obtain ⟨I4, R4, bw4⟩ := HZ4.out
      have hPe := HPE.out
      have e1 := RE.e
      have e2 := RE.r
      rw [if_pos rfl] at e1 e2
      rw [← hPe] at bw4
      rw [hPe]
      refine ⟨rfl, X, sv, Y, I, e1, e2, (Ws.of_below bw4).then W (fun q hq => ?_)⟩
      rcases hq with z | z | z | z
      · exact .inr (by omega)
      · exact .inr (by omega)
      · exact .inl (.inl z)
      · exact .inl (.inr z)
end Go.Proofs.Qxb6500880aGreat
