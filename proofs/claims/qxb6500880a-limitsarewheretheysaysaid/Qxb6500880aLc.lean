import Derived.Deep.CutBlock
import Derived.OwnWalk
import Derived.Maps.AppendAt
import Derived.Maps.OwnSet
import Derived.Maps.OwnOps
import Derived.Laws.ResultCell
import Derived.Test.Qxb6500880aLb
set_option linter.unusedVariables false
set_option linter.unusedSimpArgs false
namespace Go.Proofs.Qxb6500880a
open Go.RowKit

theorem info31 : (Try.prog.info? 31).map (fun i => (i.zero, i.size, i.bytes)) = some (some (.agg #[.int .u8 0, .int .u8 0, .string ByteArray.empty, .slice none 0 0]), 4, 48) := by kernel_rfl
theorem LitI.push {w wa w3 : World} {base : Nat} {bv bv' v : Value} {av : Nat → Value} {k n V : Nat} (h : LitI w base bv av k n V) (hv : TermsAt w v n (fun t => (k * n + t) % V)) (hq : ∃ q, v.ownBlock = some q ∧ base ≤ q ∧ q < w.heap.size ∧ bv.ownBlock ≠ some q) (ho : w3.ownsRow base 31 4 bv' (k + 1) (litL av k ++ [.int .u8 0, .int .u8 0, .string (nmS true), v])) (hbA : Below w.heap.size w wa) (hg : wa.grownBy w3 bv.ownBlock) (hblk : bv'.ownBlock = bv.ownBlock ∨ bv'.ownBlock = some wa.heap.size) : LitI w3 base bv' (updV av k v) (k + 1) n V := by
  have hsz := hbA.size
  have hsg := hg.size
  have e1 : litL (updV av k v) (k + 1) = litL av k ++ [.int .u8 0, .int .u8 0, .string (nmS true), v] := by
    show litL (updV av k v) k ++ _ = _
    rw [litL_upd av k v k (Nat.le_refl _), updV_same]
  have K : ∀ j, j < k + 1 → TermsAt w (updV av k v j) n (fun t => (j * n + t) % V) ∧ ∃ q, (updV av k v j).ownBlock = some q ∧ base ≤ q ∧ q < w.heap.size ∧ bv.ownBlock ≠ some q := fun j hj => by
    by_cases z : j = k
    · subst z
      rw [updV_same]
      exact ⟨hv, hq⟩
    · rw [updV_other av v z]
      exact ⟨h.tm j (by omega), h.tq j (by omega)⟩
  refine ⟨by rw [e1]; exact ho, fun j hj => ?_, fun j hj => ?_⟩
  · obtain ⟨a, q, e, h1, h2, h3⟩ := K j hj
    exact a.keep (fun q' e' _ => by rw [e] at e'; have := some_eq e'; subst this; exact (hg.block q (by omega) (fun e => h3 e.symm)).trans (hbA.block q h2))
  · obtain ⟨a, q, e, h1, h2, h3⟩ := K j hj
    refine ⟨q, e, h1, by omega, ?_⟩
    rcases hblk with z | z
    · rw [z]; exact h3
    · rw [z]; intro e; have := some_eq e; omega
structure Ru3 (w : World) (a : Nat) (nm : ByteArray) (v : Value) : Prop where
  c0 : w.cell? ⟨a, 0, none⟩ = some (.string nm)
  c1 : w.cell? ⟨a, 1, none⟩ = some (.slice none 0 0)
  c2 : w.cell? ⟨a, 2, none⟩ = some v
  fz : ∀ o, w.frozen? ⟨a, o, none⟩ = false
theorem Ru3.blk {w w' : World} {a : Nat} {nm : ByteArray} {v : Value} (h : Ru3 w a nm v) (e : w'.heap[a]? = w.heap[a]?) : Ru3 w' a nm v :=
  ⟨(World.cell?_of_block (a := ⟨a, 0, none⟩) e).trans h.c0, (World.cell?_of_block (a := ⟨a, 1, none⟩) e).trans h.c1, (World.cell?_of_block (a := ⟨a, 2, none⟩) e).trans h.c2, fun o => (World.frozen?_of_block (a := ⟨a, o, none⟩) e).trans (h.fz o)⟩
structure Lt4 (w : World) (a : Nat) (v : Value) : Prop where
  c0 : w.cell? ⟨a, 0, none⟩ = some (.int .u8 0)
  c1 : w.cell? ⟨a, 1, none⟩ = some (.int .u8 0)
  c2 : w.cell? ⟨a, 2, none⟩ = some (.string (nmS true))
  c3 : w.cell? ⟨a, 3, none⟩ = some v
  fz : ∀ o, w.frozen? ⟨a, o, none⟩ = false
theorem Lt4.blk {w w' : World} {a : Nat} {v : Value} (h : Lt4 w a v) (e : w'.heap[a]? = w.heap[a]?) : Lt4 w' a v :=
  ⟨(World.cell?_of_block (a := ⟨a, 0, none⟩) e).trans h.c0, (World.cell?_of_block (a := ⟨a, 1, none⟩) e).trans h.c1, (World.cell?_of_block (a := ⟨a, 2, none⟩) e).trans h.c2, (World.cell?_of_block (a := ⟨a, 3, none⟩) e).trans h.c3, fun o => (World.frozen?_of_block (a := ⟨a, o, none⟩) e).trans (h.fz o)⟩
theorem Lt4.put {w : World} {a : Nat} {v : Value} (h : Lt4 w a v) (x : Value) : Lt4 (w.setCell ⟨a, 3, none⟩ x) a x :=
  ⟨(World.cell?_setCell_other _ _ _ _ (by simp)).trans h.c0, (World.cell?_setCell_other _ _ _ _ (by simp)).trans h.c1, (World.cell?_setCell_other _ _ _ _ (by simp)).trans h.c2, World.cell?_setCell_same _ _ _ h.c3, fun o => (World.frozen?_setCell _ _ _ _).trans (h.fz o)⟩
set_option maxRecDepth 20000 in
set_option maxHeartbeats 8000000 in
theorem rule4_any {w : World} {m n V : Nat} (hm0 : 0 < m) (hm : m ≤ 100) (hn0 : 0 < n) (hn : n ≤ 100) (hV : 0 < V) (hV2 : V ≤ 1000) :
    Calls Try.prog 4 #[.int .i64 (m : Int), .int .i64 (n : Int), .int .i64 (V : Int)] w fun e w' => ∃ bv, e = .returned (.agg #[.string (nmS false), .slice none 0 0, bv]) ∧ BodyAt w' bv m n V ∧ Below w.heap.size w w' := by
  obtain ⟨i34, hi34, hq0, hq1, hq2⟩ := info_parts info34
  obtain ⟨i31, hi31, hr0, hr1, hr2⟩ := info_parts info31
  have bZ := one_alloc w (.cells #[.string ByteArray.empty, .slice none 0 0, .slice none 0 0] 27)
  have bR := one_alloc (w.alloc (.cells #[.string ByteArray.empty, .slice none 0 0, .slice none 0 0] 27)) (.cells #[.string (nmS false), .slice none 0 0, .slice none 0 0] 27)
  have b2 := then_ bZ bR
  have Z2 : Ru3 ((w.alloc (.cells #[.string ByteArray.empty, .slice none 0 0, .slice none 0 0] 27)).alloc (.cells #[.string (nmS false), .slice none 0 0, .slice none 0 0] 27)) w.heap.size ByteArray.empty (.slice none 0 0) := Ru3.blk ⟨new_cell rfl _ _ 0, new_cell rfl _ _ 1, new_cell rfl _ _ 2, fun o => new_frz rfl _ _ _⟩ (bR.block w.heap.size (by simp))
  have R2 : Ru3 ((w.alloc (.cells #[.string ByteArray.empty, .slice none 0 0, .slice none 0 0] 27)).alloc (.cells #[.string (nmS false), .slice none 0 0, .slice none 0 0] 27)) (w.heap.size + 1) (nmS false) (.slice none 0 0) := ⟨new_cell (by simp) _ _ 0, new_cell (by simp) _ _ 1, new_cell (by simp) _ _ 2, fun o => new_frz (by simp) _ _ _⟩
  have hs2 : ((w.alloc (.cells #[.string ByteArray.empty, .slice none 0 0, .slice none 0 0] 27)).alloc (.cells #[.string (nmS false), .slice none 0 0, .slice none 0 0] 27)).heap.size = w.heap.size + 2 := by simp
  have H2 := hideIt (And.intro b2 (And.intro Z2 (And.intro R2 hs2)))
  have hVi : (V : Int) ≠ 0 := by omega
  have hVi' : ¬ ((V : Int) = 0) := hVi
  have hV0 : ¬ (V = 0) := by omega
  have hVb : ((V : Int) == 0) = false := by simp; omega
  clear bZ bR b2 Z2 R2 hs2
  go_enter Try.func4, Try.ntmps4
  go_upto_region 2 with fail
  have ews : ((w.alloc (.cells #[.string { data := #[] }, .slice none 0 0, .slice none 0 0] 27)).alloc (.cells #[.string { data := #[104] }, .slice none 0 0, .slice none 0 0] 27)) = ((w.alloc (.cells #[.string ByteArray.empty, .slice none 0 0, .slice none 0 0] 27)).alloc (.cells #[.string (nmS false), .slice none 0 0, .slice none 0 0] 27)) := rfl
  rw [ews]
  generalize hw2 : ((w.alloc (.cells #[.string ByteArray.empty, .slice none 0 0, .slice none 0 0] 27)).alloc (.cells #[.string (nmS false), .slice none 0 0, .slice none 0 0] 27)) = w2
  have H2' : Hid (Below w.heap.size w w2 ∧ Ru3 w2 w.heap.size ByteArray.empty (.slice none 0 0) ∧ Ru3 w2 (w.heap.size + 1) (nmS false) (.slice none 0 0) ∧ w2.heap.size = w.heap.size + 2) := by rw [← hw2]; exact H2
  clear H2 hw2 ews
  obtain ⟨RZ, hRZ⟩ : ∃ RZ, w.heap.size = RZ := ⟨_, rfl⟩
  obtain ⟨RR, hRR⟩ : ∃ RR, RZ + 1 = RR := ⟨_, rfl⟩
  rw [hRZ] at H2'
  rw [hRR] at H2'
  rw [hRZ, hRR]
  have HRZ := hideIt (And.intro hRZ hRR)
  clear hRZ hRR
  go_wp2_with fail
  go_loopg [13, 8] m (fun gg v v8 wr => ∃ i : Nat, i + gg = m ∧ v = .int .i64 (i : Int) ∧ v8 = .int .i64 ((i * n : Nat) : Int) ∧ ∃ bv av, LitI wr (RR + 1) bv av i n V ∧ Ru3 wr RR (nmS false) bv ∧ Ru3 wr RZ ByteArray.empty (.slice none 0 0) ∧ Below RZ w wr)
  case atStart =>
    obtain ⟨b2, Z2, R2, hs2⟩ := H2'.out
    exact ⟨0, by omega, rfl, by simp, .slice none 0 0, fun _ => .slice none 0 0, ⟨own_nil _ _ _ _, fun j hj => by omega, fun j hj => by omega⟩, R2, Z2, b2⟩
  case round =>
  clear H2'
  obtain ⟨i, hi, rfl, rfl, bv, av, LI, R, Z, bw⟩ := hrel
  obtain ⟨hRZ, hRR⟩ := HRZ.out
  have hRRl : RR < wr.heap.size := World.block_lt_of_cell? _ _ R.c0
  by_cases hin : i < m
  · have i1 : (i : Int) < (m : Int) := by omega
    have bL := one_alloc wr (.cells #[.int .u8 0, .int .u8 0, .string (nmS true), .slice none 0 0] 31)
    have L1 : Lt4 (wr.alloc (.cells #[.int .u8 0, .int .u8 0, .string (nmS true), .slice none 0 0] 31)) wr.heap.size (.slice none 0 0) := ⟨new_cell rfl _ _ 0, new_cell rfl _ _ 1, new_cell rfl _ _ 2, new_cell rfl _ _ 3, fun o => new_frz rfl _ _ _⟩
    have hs1 : (wr.alloc (.cells #[.int .u8 0, .int .u8 0, .string (nmS true), .slice none 0 0] 31)).heap.size = wr.heap.size + 1 := by simp
    have HQ := hideIt (And.intro LI (And.intro R (And.intro Z (And.intro bw (And.intro bL hs1)))))
    have HL := hideIt L1
    clear LI R Z bw bL L1 hs1
    go_upto_region 6 with fail
    have ewl : wr.alloc (.cells #[.int .u8 0, .int .u8 0, .string { data := #[112] }, .slice none 0 0] 31) = wr.alloc (.cells #[.int .u8 0, .int .u8 0, .string (nmS true), .slice none 0 0] 31) := rfl
    rw [ewl]
    generalize hwl : wr.alloc (.cells #[.int .u8 0, .int .u8 0, .string (nmS true), .slice none 0 0] 31) = wl
    have HQ' : Hid (LitI wr (RR + 1) bv av i n V ∧ Ru3 wr RR (nmS false) bv ∧ Ru3 wr RZ ByteArray.empty (.slice none 0 0) ∧ Below RZ w wr ∧ Below wr.heap.size wr wl ∧ wl.heap.size = wr.heap.size + 1) := by rw [← hwl]; exact HQ
    have HL' : Hid (Lt4 wl wr.heap.size (.slice none 0 0)) := by rw [← hwl]; exact HL
    clear HQ HL hwl ewl
    obtain ⟨LT, hLT⟩ : ∃ LT, wr.heap.size = LT := ⟨_, rfl⟩
    rw [hLT] at HL'
    rw [hLT]
    have HLT := hideIt hLT
    clear hLT
    go_wp2_with fail
    go_loopg [18, 8] n (fun gg v v8 wx => ∃ t : Nat, t + gg = n ∧ v = .int .i64 (t : Int) ∧ v8 = .int .i64 ((i * n + t : Nat) : Int) ∧ ∃ av', wx.ownsRow (LT + 1) 34 4 av' t (trmL (fun t => (i * n + t) % V) t) ∧ Lt4 wx LT av' ∧ Ws (fun q => q = LT) wl wx)
    case atStart => exact ⟨0, by omega, rfl, by simp, .slice none 0 0, own_nil _ _ _ _, HL'.out, Ws.refl _ _⟩
    case round =>
    obtain ⟨t, ht, rfl, rfl, av', own, L, W⟩ := hrel
    by_cases htn : t < n
    · have t1 : (t : Int) < (n : Int) := by omega
      obtain ⟨p8, hp8⟩ : ∃ p8, i * n + t = p8 := ⟨_, rfl⟩
      obtain ⟨x, hx⟩ : ∃ x, p8 % V = x := ⟨_, rfl⟩
      have hp8b : p8 ≤ 100000 := by
        have : i * n ≤ 100 * 100 := Nat.mul_le_mul (by omega) hn
        omega
      have hrem : (p8 : Int).tmod (V : Int) = (x : Int) := by rw [← hx]; rfl
      obtain ⟨pa, ca, rfl⟩ := own_shape own
      have y3 := L.c3
      have lfd := L.fz
      obtain ⟨wd, hwd⟩ : ∃ wd, wd = wr := ⟨_, rfl⟩
      subst hwd
      have hLd : LT < wd.heap.size := World.block_lt_of_cell? _ _ y3
      have hrL : some LT ≠ (Value.slice pa t ca).ownBlock := fun e => by have := (own.lt LT e.symm).1; omega
      have HOWN := hideIt own
      have HW := hideIt (And.intro L W)
      have HP8 := hideIt (And.intro hp8 hx)
      rw [hp8]
      clear own L W hx hp8
      go_upto_region 8 with fail
      refine wp_region_l (l := 11) (S := (fun w' => w'.cell? ⟨LT, 3, none⟩ = some (.slice pa t ca))) (by kernel_rfl) y3 (fun hHeld => ?_)
      refine AnyL.take2 (i := 0) (oi := { dst := some 20, op := Go.Op.fieldAddr 31 (Go.Operand.tmp 9) 2, type := 0, pos := _, after := #[], guard := none }) (v := ?vv52001) (by kernel_rfl) (by kernel_rfl) rfl (by kernel_rfl) (by kernel_rfl) (by kernel_rfl) (fun _ _ _ h => h) (Or.inl ⟨by rfl, ?hy52001⟩) (by assumption) ?tk52001
      case hy52001 => (intro w hSw; (try dsimp only at hSw); go_simp; (try with_reducible rfl))
      try simp only [Act.put, List.setIfInBounds_toArray, List.set_cons_zero, List.set_cons_succ]
      refine AnyL.take2 (i := 1) (oi := { dst := some 21, op := Go.Op.fieldAddr 24 (Go.Operand.tmp 20) 1, type := 0, pos := _, after := #[{ on := 0, ground := Go.Ground.data }], guard := none }) (v := ?vv52002) (by kernel_rfl) (by kernel_rfl) rfl (by kernel_rfl) (by kernel_rfl) (by kernel_rfl) (fun _ _ _ h => h) (Or.inl ⟨by rfl, ?hy52002⟩) (by assumption) ?tk52002
      case hy52002 => (intro w hSw; (try dsimp only at hSw); go_simp; (try with_reducible rfl))
      try simp only [Act.put, List.setIfInBounds_toArray, List.set_cons_zero, List.set_cons_succ]
      refine AnyL.take2 (i := 2) (oi := { dst := some 22, op := Go.Op.load 22 (Go.Operand.tmp 21), type := 22, pos := _, after := #[{ on := 1, ground := Go.Ground.data }], guard := none }) (v := ?vv52003) (by kernel_rfl) (by kernel_rfl) rfl (by kernel_rfl) (by kernel_rfl) (by kernel_rfl) (fun _ _ _ h => h) (Or.inl ⟨by rfl, ?hy52003⟩) (by assumption) ?tk52003
      case hy52003 => (intro w hSw; (try dsimp only at hSw); go_simp; (try with_reducible rfl))
      try simp only [Act.put, List.setIfInBounds_toArray, List.set_cons_zero, List.set_cons_succ]
      refine AnyL.take2 (i := 3) (oi := { dst := some 23, op := Go.Op.move (Go.Operand.tmp 8), type := 3, pos := _, after := #[], guard := none }) (v := ?vv52004) (by kernel_rfl) (by kernel_rfl) rfl (by kernel_rfl) (by kernel_rfl) (by kernel_rfl) (fun _ _ _ h => h) (Or.inl ⟨by rfl, ?hy52004⟩) (by assumption) ?tk52004
      case hy52004 => (intro w hSw; (try dsimp only at hSw); go_simp; (try with_reducible rfl))
      try simp only [Act.put, List.setIfInBounds_toArray, List.set_cons_zero, List.set_cons_succ]
      refine AnyL.take2 (i := 4) (oi := { dst := some 24, op := Go.Op.move (Go.Operand.tmp 2), type := 3, pos := _, after := #[], guard := none }) (v := ?vv52005) (by kernel_rfl) (by kernel_rfl) rfl (by kernel_rfl) (by kernel_rfl) (by kernel_rfl) (fun _ _ _ h => h) (Or.inl ⟨by rfl, ?hy52005⟩) (by assumption) ?tk52005
      case hy52005 => (intro w hSw; (try dsimp only at hSw); go_simp; (try with_reducible rfl))
      try simp only [Act.put, List.setIfInBounds_toArray, List.set_cons_zero, List.set_cons_succ]
      refine AnyL.take2 (i := 5) (oi := { dst := some 25, op := Go.Op.binOp Go.BinOp.rem 3 (Go.Operand.tmp 23) (Go.Operand.tmp 24) 3, type := 3, pos := _, after := #[{ on := 3, ground := Go.Ground.data }, { on := 4, ground := Go.Ground.data }], guard := none }) (v := ?vv52006) (by kernel_rfl) (by kernel_rfl) rfl (by kernel_rfl) (by kernel_rfl) (by kernel_rfl) (fun _ _ _ h => h) (Or.inl ⟨by rfl, ?hy52006⟩) (by assumption) ?tk52006
      case hy52006 => (intro w hSw; (try dsimp only at hSw); go_simp; (try with_reducible rfl))
      try simp only [Act.put, List.setIfInBounds_toArray, List.set_cons_zero, List.set_cons_succ]
      refine AnyL.take2 (i := 6) (oi := { dst := some 26, op := Go.Op.build 34 #[(0, Go.Operand.const (Go.Value.int Go.IntKind.u8 0)), (1, Go.Operand.tmp 25)], type := 34, pos := _, after := #[{ on := 5, ground := Go.Ground.data }], guard := none }) (v := ?vv52007) (by kernel_rfl) (by kernel_rfl) rfl (by kernel_rfl) (by kernel_rfl) (by kernel_rfl) (fun _ _ _ h => h) (Or.inl ⟨by rfl, ?hy52007⟩) (by assumption) ?tk52007
      case hy52007 => (intro w hSw; (try dsimp only at hSw); go_simp; (try with_reducible rfl))
      try simp only [Act.put, List.setIfInBounds_toArray, List.set_cons_zero, List.set_cons_succ]
      refine AnyL.one (i := 7) (o := { dst := some 27, op := Go.Op.buildSlice 22 1 #[(0, Go.Operand.tmp 26)], type := 22, pos := _, after := #[{ on := 6, ground := Go.Ground.data }], guard := none }) (by kernel_rfl) rfl rfl (fun K' hK' => ?_)
      go_simp
      clear hHeld
      refine hK'.out _ _ (cell_later (below_dr (one_alloc _ _)) y3) (fun hHeld => ?_)
      clear hK' K'
      try simp only [Act.put, List.setIfInBounds_toArray, List.set_cons_zero, List.set_cons_succ]
      refine AnyL.one (i := 8) (o := { dst := some 28, op := Go.Op.call { callee := Go.Callee.builtin Go.Builtin.append, args := #[Go.Operand.tmp 22, Go.Operand.tmp 27], argTypes := #[22, 22] }, type := 22, pos := _, after := #[{ on := 2, ground := Go.Ground.data }, { on := 7, ground := Go.Ground.data }], guard := none }) (by kernel_rfl) rfl rfl (fun K' hK' => ?_)
      refine ite_take (by rfl) ?_
      refine wp_append_own_at (.tmp 22) (.tmp 27) 22 rfl (LT + 1) 34 i34 ((.agg #[.int .u8 0, .int .i64 0, .int .i64 0, .string ByteArray.empty])) 4 40 Try.underlying22 hi34 hq0 hq1 hq2 rfl (by decide) (.slice pa t ca) t (trmL (fun t => (i * n + t) % V) t) rfl (HOWN.out.alloc _) ⟨wd.heap.size, 0, none⟩ 1 1 [.int .u8 0, .int .i64 (x : Int), .int .i64 0, .string ByteArray.empty] rfl rfl (cell_new_4 _ _ _ _ _ _) (by simp [Value.oneCell']) (by unfold maxLen; omega) (by omega) (by simp <;> omega) ?_
      intro v' w3 hown' hgrow hblk
      obtain ⟨p', c', rfl⟩ := own_shape hown'
      have kk0 := hgrow.cell (a := ⟨LT, 3, none⟩) (hHeld) hrL
      have fz3 : ∀ o, w3.frozen? ⟨LT, o, none⟩ = false := fun o => ((World.frozen?_of_block (a := ⟨LT, o, none⟩) (hgrow.block LT (by simp; omega) hrL)).trans (World.frozen?_of_block (a := ⟨LT, o, none⟩) ((one_alloc wd _).block LT hLd))).trans (lfd o)
      have HG := hideIt (And.intro hown' (And.intro hgrow hblk))
      clear hown' hgrow hblk
      clear hHeld
      refine hK'.out _ _ kk0 (fun hHeld => ?_)
      clear hK' K'
      try simp only [Act.put, List.setIfInBounds_toArray, List.set_cons_zero, List.set_cons_succ]
      refine AnyL.take2 (i := 9) (oi := { dst := some 29, op := Go.Op.fieldAddr 31 (Go.Operand.tmp 9) 2, type := 0, pos := _, after := #[{ on := 0, ground := Go.Ground.phase }, { on := 1, ground := Go.Ground.phase }, { on := 2, ground := Go.Ground.phase }, { on := 3, ground := Go.Ground.phase }, { on := 4, ground := Go.Ground.phase }, { on := 5, ground := Go.Ground.phase }, { on := 6, ground := Go.Ground.phase }, { on := 7, ground := Go.Ground.phase }, { on := 8, ground := Go.Ground.phase }], guard := none }) (v := ?vv52008) (by kernel_rfl) (by kernel_rfl) rfl (by kernel_rfl) (by kernel_rfl) (by kernel_rfl) (fun _ _ _ h => h) (Or.inl ⟨by rfl, ?hy52008⟩) (by assumption) ?tk52008
      case hy52008 => (intro w hSw; (try dsimp only at hSw); go_simp; (try with_reducible rfl))
      try simp only [Act.put, List.setIfInBounds_toArray, List.set_cons_zero, List.set_cons_succ]
      refine AnyL.take2 (i := 10) (oi := { dst := some 30, op := Go.Op.fieldAddr 24 (Go.Operand.tmp 29) 1, type := 0, pos := _, after := #[{ on := 9, ground := Go.Ground.data }, { on := 0, ground := Go.Ground.phase }, { on := 1, ground := Go.Ground.phase }, { on := 2, ground := Go.Ground.phase }, { on := 3, ground := Go.Ground.phase }, { on := 4, ground := Go.Ground.phase }, { on := 5, ground := Go.Ground.phase }, { on := 6, ground := Go.Ground.phase }, { on := 7, ground := Go.Ground.phase }, { on := 8, ground := Go.Ground.phase }], guard := none }) (v := ?vv52009) (by kernel_rfl) (by kernel_rfl) rfl (by kernel_rfl) (by kernel_rfl) (by kernel_rfl) (fun _ _ _ h => h) (Or.inl ⟨by rfl, ?hy52009⟩) (by assumption) ?tk52009
      case hy52009 => (intro w hSw; (try dsimp only at hSw); go_simp; (try with_reducible rfl))
      try simp only [Act.put, List.setIfInBounds_toArray, List.set_cons_zero, List.set_cons_succ]
      refine AnyL.last (o := { dst := none, op := Go.Op.store 22 (Go.Operand.tmp 30) (Go.Operand.tmp 28), type := 0, pos := _, after := #[{ on := 10, ground := Go.Ground.data }, { on := 8, ground := Go.Ground.data }, { on := 8, ground := Go.Ground.chain }, { on := 0, ground := Go.Ground.phase }, { on := 1, ground := Go.Ground.phase }, { on := 2, ground := Go.Ground.phase }, { on := 3, ground := Go.Ground.phase }, { on := 4, ground := Go.Ground.phase }, { on := 5, ground := Go.Ground.phase }, { on := 6, ground := Go.Ground.phase }, { on := 7, ground := Go.Ground.phase }, { on := 8, ground := Go.Ground.phase }], guard := none }) (by kernel_rfl) rfl (by kernel_rfl) (fun K' hK' => ?_)
      go_simp
      clear hHeld
      refine hK'.out _ _ ?_
      clear hK' K'
      try simp only [Act.put, List.setIfInBounds_toArray, List.set_cons_zero, List.set_cons_succ]
      go_wp2
      go_roundg (n - (t + 1))
      case measure => omega
      case rel =>
        obtain ⟨hown', hgrow, hblk⟩ := HG.out
        obtain ⟨L, W⟩ := HW.out
        obtain ⟨hp8, hx⟩ := HP8.out
        have bDA := below_dr (one_alloc wd (.cells #[.int .u8 0, .int .i64 (x : Int), .int .i64 0, .string ByteArray.empty] 34))
        replace hgrow : (wd.alloc (.cells #[.int .u8 0, .int .i64 (x : Int), .int .i64 0, .string ByteArray.empty] 34)).drew.grownBy w3 (Value.slice pa t ca).ownBlock := hgrow
        have hsz := bDA.size
        have hsz3 := hgrow.size
        have eL : w3.heap[LT]? = wd.heap[LT]? := (hgrow.block LT (by omega) hrL).trans (bDA.block LT hLd)
        refine ⟨t + 1, by omega, by go_num, by rw [show i * n + (t + 1) = p8 + 1 by omega]; go_num, .slice p' (t + 1) c', ?_, (L.blk eL).put _, ?_⟩
        · show World.ownsRow _ _ _ _ _ _ (trmL (fun t => (i * n + t) % V) t ++ [.int .u8 0, .int .i64 (((i * n + t) % V : Nat) : Int), .int .i64 0, .string ByteArray.empty])
          rw [hp8, hx]
          exact own_one hown' (fun q hq => far_set (fun e => by have := (hown'.lt q hq).1; omega))
        · have hLTw := HLT.out
          refine ⟨hgrow.os.trans (bDA.os.trans W.os), hgrow.tape.trans (bDA.tape.trans W.tape), hgrow.output.trans (bDA.output.trans W.output), by have := W.size; simp; omega, fun q h1 h2 => ?_⟩
          have hsl : wl.heap.size = LT + 1 := by obtain ⟨_, _, _, _, _, h⟩ := HQ'.out; omega
          exact (far_set h2).trans ((hgrow.block q (by have := W.size; omega) (fun e => by have := (HOWN.out.lt q e.symm).1; omega)).trans ((bDA.block q (by have := W.size; omega)).trans (W.block q h1 h2)))
    · have htn' : t = n := by omega
      have t1 : ¬ ((t : Int) < (n : Int)) := by omega
      obtain ⟨LI, R, Z, bw, bL, hsl⟩ := HQ'.out
      have hLT := HLT.out
      obtain ⟨wx, hwx⟩ : ∃ wx, wx = wr := ⟨_, rfl⟩
      subst hwx
      have hsW := W.size
      have kx : ∀ q, q < LT → wx.heap[q]? = _ := fun q hq => (W.block q (by omega) (by omega)).trans (bL.block q (by omega))
      have LIx : LitI wx (RR + 1) bv av i n V := LI.keep (by omega) (fun q h1 h2 => kx q (by omega))
      have Rx := R.blk (kx RR (by omega))
      have Zx := Z.blk (kx RZ (World.block_lt_of_cell? _ _ Z.c0 |> fun h => by omega))
      have bx : Below RZ w wx := ⟨W.os.trans (bL.os.trans bw.os), W.tape.trans (bL.tape.trans bw.tape), W.output.trans (bL.output.trans bw.output), by have := bw.size; omega, fun q hq => (kx q (by omega)).trans (bw.block q hq)⟩
      rw [htn'] at own
      obtain ⟨TT, qv, hqv, hqb, hql⟩ := TermsAt.of_own own hn0
      obtain ⟨pa, ca, rfl⟩ := own_shape own
      obtain ⟨pb, cb, rfl⟩ := own_shape LIx.own
      have y2 := Rx.c2
      have rf := Rx.fz
      have l0 := L.c0
      have l1 := L.c1
      have l2 := L.c2
      have l3 := L.c3
      have hqn : (Value.slice pb i cb).ownBlock ≠ some qv := fun e => by have := (LI.own.lt qv e).2; omega
      have bN := one_alloc wx (.cells #[.int .u8 0, .int .u8 0, .string (nmS true), .slice pa n ca] 31)
      have HO := hideIt LIx.own
      have HX := hideIt (And.intro LIx (And.intro Rx (And.intro Zx (And.intro bx (And.intro TT (And.intro hqv (And.intro hqb (And.intro hql (And.intro hqn (And.intro bN htn'))))))))))
      have hRRx : RR + 1 ≤ wx.heap.size := by omega
      clear LI R Z bw bL hsl own L W kx LIx Rx Zx bx TT hqv hqb hql hqn bN htn'
      go_wp2_with (first | (at_builtin; refine wpList_append_own_at _ rfl (.tmp 35) (.tmp 37) 25 rfl (RR + 1) 31 i31 (.agg #[.int .u8 0, .int .u8 0, .string ByteArray.empty, .slice none 0 0]) 4 48 Try.underlying25 hi31 hr0 hr1 hr2 rfl (by decide) (.slice pb i cb) i (litL av i) rfl (HO.out.alloc _) ⟨wx.heap.size, 0, none⟩ 1 1 [.int .u8 0, .int .u8 0, .string (nmS true), .slice pa n ca] rfl rfl (cell_new_4 _ _ _ _ _ _) (by simp [Value.oneCell']) (by unfold maxLen; omega) (by omega) (by simp <;> omega) ?_) | go_in)
      intro v' w7 hown' hgrow hiff hblk
      obtain ⟨p', c', rfl⟩ := own_shape hown'
      obtain ⟨LIx, Rx, Zx, bx, TT, hqv, hqb, hql, hqn, bN, htn'⟩ := HX.out
      have hsN := bN.size
      have hsG := hgrow.size
      have LI7 := LIx.push TT ⟨qv, hqv, by omega, hql, hqn⟩ hown' bN hgrow (by simpa using hblk)
      have k7 : ∀ q, q < RR + 1 → w7.heap[q]? = wx.heap[q]? := fun q hq => (hgrow.block q (by omega) (fun e => by have := (HO.out.lt q e.symm).1; omega)).trans (bN.block q (by omega))
      have R7 := Rx.blk (k7 RR (by omega))
      have Z7 := Zx.blk (k7 RZ (by have := HRZ.out; omega))
      have b7 : Below RZ w w7 := ⟨hgrow.os.trans (bN.os.trans bx.os), hgrow.tape.trans (bN.tape.trans bx.tape), hgrow.output.trans (bN.output.trans bx.output), by have := bx.size; omega, fun q hq => (k7 q (by have := HRZ.out; omega)).trans (bx.block q hq)⟩
      have y27 := R7.c2
      have rf7 := R7.fz
      have H7 := hideIt (And.intro LI7 (And.intro R7 (And.intro Z7 (And.intro b7 htn'))))
      clear hown' hgrow hiff hblk LIx Rx Zx bx TT hqv hqb hql hqn bN htn' LI7 k7 R7 Z7 b7 y2 rf l0 l1 l2 l3
      go_wp2
      go_roundg (m - (i + 1))
      case measure => omega
      case rel =>
        obtain ⟨LI7, R7, Z7, b7, htn'⟩ := H7.out
        obtain ⟨hRZ, hRR⟩ := HRZ.out
        have e9 : (i + 1) * n = i * n + t := by rw [htn', Nat.add_mul, Nat.one_mul]
        refine ⟨i + 1, by omega, by go_num, by rw [e9]; first | rfl | simp, .slice p' (i + 1) c', _, LI7.keep (by simp) (fun q h1 h2 => far_set (by omega)), ⟨(World.cell?_setCell_other _ _ _ _ (by simp)).trans R7.c0, (World.cell?_setCell_other _ _ _ _ (by simp)).trans R7.c1, World.cell?_setCell_same _ _ _ R7.c2, fun o => (World.frozen?_setCell _ _ _ _).trans (R7.fz o)⟩, Z7.blk (far_set (by omega)), below_cell b7 (by omega) _⟩
  · have him : i = m := by omega
    have i1 : ¬ ((i : Int) < (m : Int)) := by omega
    obtain ⟨pb, cb, rfl⟩ := own_shape LI.own
    have r0 := R.c0
    have r1 := R.c1
    have r2 := R.c2
    have rf := R.fz
    have z0 := Z.c0
    have z1 := Z.c1
    have z2 := Z.c2
    have zf := Z.fz
    have hne : RR ≠ RZ := by omega
    have hne' : RZ ≠ RR := by omega
    have hbl : ∀ q, (Value.slice pb i cb).ownBlock = some q → q ≠ RZ := fun q hq e => by have := (LI.own.lt q hq).1; omega
    have HX := hideIt (And.intro LI (And.intro bw (And.intro him (And.intro hRZ hRR))))
    clear LI R Z bw him hi hin hRZ hRR
    go_wp2
    refine bodyPost_ret (v := .agg #[.string (nmS false), .slice none 0 0, .slice pb i cb]) ?_ rfl ?_
    · rw [results_one_cell rfl]
      go_simp
    · obtain ⟨LI, bw, him, hRZ, hRR⟩ := HX.out
      refine ⟨_, rfl, ?_, by rw [hRZ]; exact below_cell (below_cell (below_cell bw (Nat.le_refl _) _) (Nat.le_refl _) _) (Nat.le_refl _) _⟩
      have := (LI.keep (w' := ((wr.setCell ⟨RZ, 0, none⟩ (.string (nmS false))).setCell ⟨RZ, 1, none⟩ (.slice none 0 0)).setCell ⟨RZ, 2, none⟩ (.slice pb i cb)) (by simp) (fun q h1 h2 => have HH : q ≠ RZ := (by omega); (far_set HH).trans ((far_set HH).trans (far_set HH)))).body (by omega)
      rw [him] at this
      rw [← him] at this ⊢
      exact this
end Go.Proofs.Qxb6500880a
