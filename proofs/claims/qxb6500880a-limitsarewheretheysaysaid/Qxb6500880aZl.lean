import Derived.Deep.CutBlock
import Derived.OwnWalk
import Derived.Maps.AppendAt
import Derived.Maps.OwnSet
import Derived.Maps.OwnOps
import Derived.Laws.ResultCell
import Derived.Test.Qxb6500880aZk
set_option linter.unusedVariables false
set_option linter.unusedSimpArgs false
namespace Go.Proofs.Qxb6500880a
open Go.RowKit

theorem actL_len (f : Nat → Nat) : ∀ n, (actL f n).length = n * 4
  | 0 => rfl
  | n + 1 => by
    unfold actL
    rw [List.length_append, actL_len f n]
    simp
    omega
theorem actL_get (f : Nat → Nat) (t i : Nat) (hi : i < 4) : ∀ n, t < n → (actL f n)[t * 4 + i]? = ([.int .i64 (t : Int), .bool true, .int .i64 (f t : Int), .int .u32 0] : List Value)[i]?
  | 0, h => by omega
  | n + 1, h => by
    unfold actL
    by_cases q : t = n
    · subst q
      rw [List.getElem?_append_right (by rw [actL_len]; omega), actL_len]
      congr 1
      omega
    · rw [List.getElem?_append_left (by rw [actL_len]; omega)]
      exact actL_get f t i hi n (by omega)
/-- The actions of a step, in memory. -/
structure ActAt (w : World) (g n : Nat) (f : Nat → Nat) : Prop where
  c0 : ∀ t, t < n → w.cell? ⟨g, t * 4, none⟩ = some (.int .i64 (t : Int))
  c1 : ∀ t, t < n → w.cell? ⟨g, t * 4 + 1, none⟩ = some (.bool true)
  c2 : ∀ t, t < n → w.cell? ⟨g, t * 4 + 2, none⟩ = some (.int .i64 (f t : Int))
  c3 : ∀ t, t < n → w.cell? ⟨g, t * 4 + 3, none⟩ = some (.int .u32 0)
theorem KaAt.acts {w : World} {lo : Nat} {ρ : Rl} {j : Nat} {kv av : Value} (h : KaAt w lo ρ false j kv av) (hn : 0 < ρ.n) : ∃ g c, av = .slice (some ⟨g, 0, none⟩) ρ.n c ∧ ρ.n ≤ c ∧ lo ≤ g ∧ g < w.heap.size ∧ ActAt w g ρ.n (ρ.F j) := by
  obtain ⟨_, own⟩ := h.f rfl
  obtain ⟨g, c, e, h1, h2, h3, h4, h5⟩ := own_full own hn
  have z : ∀ t, t < ρ.n → ∀ i, i < 4 → w.cell? ⟨g, t * 4 + i, none⟩ = _ := fun t ht i hi => (h4 (t * 4 + i) (by omega)).trans (actL_get (ρ.F j) t i hi ρ.n ht)
  exact ⟨g, c, e, h1, h2, h3, fun t ht => z t ht 0 (by omega), fun t ht => z t ht 1 (by omega), fun t ht => z t ht 2 (by omega), fun t ht => z t ht 3 (by omega)⟩
theorem KaAt.ops {w : World} {lo : Nat} {ρ : Rl} {j : Nat} {kv av : Value} (h : KaAt w lo ρ true j kv av) : ∃ g c, kv = .slice (some ⟨g, 0, none⟩) 1 c ∧ lo ≤ g ∧ g < w.heap.size ∧ OpsAt w (.slice (some ⟨g, 0, none⟩) 1 c) 1 (fun _ => ρ.F j 0) := by
  obtain ⟨own, _⟩ := h.t rfl
  obtain ⟨g, c, e, h1, h2, h3, h4, h5⟩ := own_full own (by omega)
  refine ⟨g, c, e, h2, h3, _, c, rfl, h1, .inr ⟨g, rfl, fun t ht => ?_⟩⟩
  have : t = 0 := by omega
  subst this
  exact ⟨h4 0 (by omega), h4 1 (by omega), h5⟩
set_option maxRecDepth 20000 in
set_option maxHeartbeats 8000000 in
theorem fits_known {w : World} {E gs k : Nat} {ρ : Rl} {kv : Value} {nm : ByteArray} {s : RelS} (St : StX w gs k ρ true kv (.slice none 0 0)) (j0 : w.cell? ⟨ρ.gj, k * 3, none⟩ = some (.pointer (some ⟨ρ.rb, 0, none⟩))) (H : RelAt w ρ.rb nm s) (hd : SymZ w s.data s.A) (hA : s.A ≤ 1000) :
    Calls Try.prog 76 #[.pointer (some ⟨E, 0, none⟩), .pointer (some ⟨gs, k * 8, none⟩), .int .i64 0] w fun e w' => e = .returned (.bool true) ∧ Below w.heap.size w w' := by
  have hrow := row_any H hd hA
  have s0 := St.s0
  have s6 := St.s6
  have s7 := St.s7
  clear St H hd
  go_enter Try.func76, Try.ntmps76
  go_wp2_with fail
  refine hrow.mono ?_
  rintro e w1 ⟨v, rfl, HZ, ew⟩
  have d6 : w1.cell? ⟨gs, k * 8 + 6, none⟩ = some (.slice none 0 0) := by rw [ew]; exact s6
  have d7 : w1.cell? ⟨gs, k * 8 + 7, none⟩ = some (.slice none 0 0) := by rw [ew]; exact s7
  have HB := hideIt (show Below w.heap.size w w1 by rw [ew]; exact below_dr (Below.refl _ _))
  clear ew HZ s0 s6 s7 j0 hrow
  go_wp2_with fail
  go_loopg [26] 0 (fun gg v wr => v = .int .i64 0 ∧ wr = w1)
  case atStart => exact ⟨rfl, rfl⟩
  case round =>
    obtain ⟨rfl, ew⟩ := hrel
    replace ew := ew.symm
    subst ew
    go_wp2_with fail
    go_loopg [61] 0 (fun gg v wr => v = .int .i64 0 ∧ wr = w1)
    case atStart => exact ⟨rfl, rfl⟩
    case round =>
      obtain ⟨rfl, ew⟩ := hrel
      replace ew := ew.symm
      subst ew
      go_wp2
      go_ret
      exact ⟨rfl, HB.out⟩
set_option maxRecDepth 20000 in
set_option maxHeartbeats 8000000 in
theorem fits_free {w : World} {E GR R gs k ga ca : Nat} {ρ : Rl} {kv : Value} {nm : ByteArray} {s : RelS} (St : StX w gs k ρ false kv (.slice (some ⟨ga, 0, none⟩) ρ.n ca)) (HA : ActAt w ga ρ.n (ρ.F k)) (j0 : w.cell? ⟨ρ.gj, k * 3, none⟩ = some (.pointer (some ⟨ρ.rb, 0, none⟩))) (H : RelAt w ρ.rb nm s) (hA : s.A = ρ.n) (hd : SymZ w s.data ρ.n) (hE : w.cell? ⟨E, 21, none⟩ = some (.slice (some ⟨GR, 0, none⟩) R R)) (RZ : RegZ w GR R) (hF : ∀ t, t < ρ.n → ρ.F k t < R) (hn0 : 0 < ρ.n) (hn : ρ.n ≤ 100) (hR : R ≤ 1000) :
    Calls Try.prog 76 #[.pointer (some ⟨E, 0, none⟩), .pointer (some ⟨gs, k * 8, none⟩), .int .i64 0] w fun e w' => e = .returned (.bool true) ∧ Below w.heap.size w w' := by
  have hrow := row_any H (by rw [hA]; exact hd) (by rw [hA]; omega)
  rw [hA] at hrow
  have s0 := St.s0
  have s6 := St.s6
  have s7 := St.s7
  have HQ := hideIt (And.intro HA (And.intro hE (And.intro RZ hF)))
  have hGRl : GR < w.heap.size := World.block_lt_of_cell? _ _ (RZ.c _ (hF 0 hn0))
  clear St H hd HA hE RZ hF hA
  go_enter Try.func76, Try.ntmps76
  go_wp2_with fail
  refine hrow.mono ?_
  rintro e w1 ⟨v, rfl, HZ, ew⟩
  have d6 : w1.cell? ⟨gs, k * 8 + 6, none⟩ = some (.slice (some ⟨ga, 0, none⟩) ρ.n ca) := by rw [ew]; exact s6
  have d7 : w1.cell? ⟨gs, k * 8 + 7, none⟩ = some (.slice none 0 0) := by rw [ew]; exact s7
  have HB := hideIt (show Below w.heap.size w w1 by rw [ew]; exact below_dr (Below.refl _ _))
  obtain ⟨pd, cd, rfl, hcd, hd'⟩ := HZ
  obtain ⟨gd, od, rfl, hz⟩ : ∃ gd od, pd = some ⟨gd, od, none⟩ ∧ ∀ j, j < ρ.n → w1.cell? ⟨gd, od + j, none⟩ = some (.int .u32 0) := by
    rcases hd' with h | ⟨gd, od, e, h⟩
    · omega
    · exact ⟨gd, od, e, h⟩
  have HZ1 := hideIt hz
  clear ew hz hd' s0 s6 s7 j0 hrow
  go_wp2_with fail
  go_loopg [26] ρ.n (fun gg v wr => ∃ i : Nat, i + gg = ρ.n ∧ v = .int .i64 (i : Int) ∧ Below w1.heap.size w1 wr)
  case atStart => exact ⟨0, by omega, rfl, Below.refl _ _⟩
  case round =>
    obtain ⟨i, hi, rfl, bw⟩ := hrel
    by_cases hin : i < ρ.n
    · have i0 : (0 : Int) ≤ i := by omega
      have i1 : (i : Int) < (ρ.n : Int) := by omega
      obtain ⟨HA, hE, RZ, hF⟩ := HQ.out
      have b1 := HB.out
      have bwr := then_ b1 bw
      have a0 := cell_later bwr (HA.c0 i hin)
      have a1 := cell_later bwr (HA.c1 i hin)
      have a2 := cell_later bwr (HA.c2 i hin)
      have a3 := cell_later bwr (HA.c3 i hin)
      have hxR := hF i hin
      obtain ⟨x, hx⟩ : ∃ x, ρ.F k i = x := ⟨_, rfl⟩
      rw [hx] at a2 hxR
      have x0 : (0 : Int) ≤ x := by omega
      have x1 : (x : Int) < (R : Int) := by omega
      have bA := one_alloc wr (.cells #[.int .i64 (i : Int), .bool true, .int .i64 (x : Int), .int .u32 0] 194)
      have y1 := cell_later (then_ bwr bA) hE
      have y4 := cell_later (then_ bw bA) (HZ1.out i hin)
      have RZ2 := RZ.blk ((then_ bwr bA).block GR hGRl)
      have z1 := RZ2.c x hxR
      have zf := RZ2.fz
      have y2 : (wr.alloc (.cells #[.int .i64 (i : Int), .bool true, .int .i64 (x : Int), .int .u32 0] 194)).cell? ⟨wr.heap.size, 2, none⟩ = some (.int .i64 (x : Int)) := by simp
      have y3 : (wr.alloc (.cells #[.int .i64 (i : Int), .bool true, .int .i64 (x : Int), .int .u32 0] 194)).cell? ⟨wr.heap.size, 0, none⟩ = some (.int .i64 (i : Int)) := by simp
      have HW := hideIt (then_ bw bA)
      clear HA hE RZ hF b1 bwr bw bA RZ2 hx
      go_upto_region 6 with fail
      clear a0 a1 a2 a3
      generalize hp9 : wr.heap.size = p9 at *
      generalize wr.alloc (.cells #[.int .i64 (i : Int), .bool true, .int .i64 (x : Int), .int .u32 0] 194) = wb at *
      refine wp_region_l (l := 13) (S := (fun w' => w'.cell? ⟨E, 21, none⟩ = some (.slice (some ⟨GR, 0, none⟩) R R) ∧ w'.cell? ⟨p9, 2, none⟩ = some (.int .i64 (x : Int)) ∧ w'.cell? ⟨p9, 0, none⟩ = some (.int .i64 (i : Int)) ∧ w'.cell? ⟨gd, od + i, none⟩ = some (.int .u32 0))) (by kernel_rfl) ⟨y1, y2, y3, y4⟩ (fun hHeld => ?_)
      refine AnyL.take2 (i := 0) (oi := { dst := some 32, op := Go.Op.move (Go.Operand.tmp 0), type := 43, pos := _, after := #[], guard := none }) (v := ?vv33001) (by kernel_rfl) (by kernel_rfl) rfl (by kernel_rfl) (by kernel_rfl) (by kernel_rfl) (fun _ _ _ h => h) (Or.inl ⟨by rfl, ?hy33001⟩) (by assumption) ?tk33001
      case hy33001 => (intro w hSw; (try dsimp only at hSw); go_simp; (try with_reducible rfl))
      try simp only [Act.put, List.setIfInBounds_toArray, List.set_cons_zero, List.set_cons_succ]
      refine AnyL.take2 (i := 1) (oi := { dst := some 33, op := Go.Op.nilCheck (Go.Operand.tmp 32), type := 0, pos := _, after := #[{ on := 0, ground := Go.Ground.data }], guard := none }) (v := ?vv33002) (by kernel_rfl) (by kernel_rfl) rfl (by kernel_rfl) (by kernel_rfl) (by kernel_rfl) (fun _ _ _ h => h) (Or.inl ⟨by rfl, ?hy33002⟩) (by assumption) ?tk33002
      case hy33002 => (intro w hSw; (try dsimp only at hSw); go_simp; (try with_reducible rfl))
      try simp only [Act.put, List.setIfInBounds_toArray, List.set_cons_zero, List.set_cons_succ]
      refine AnyL.take2 (i := 2) (oi := { dst := some 34, op := Go.Op.fieldAddr 75 (Go.Operand.tmp 33) 11, type := 0, pos := _, after := #[{ on := 1, ground := Go.Ground.data }], guard := none }) (v := ?vv33003) (by kernel_rfl) (by kernel_rfl) rfl (by kernel_rfl) (by kernel_rfl) (by kernel_rfl) (fun _ _ _ h => h) (Or.inl ⟨by rfl, ?hy33003⟩) (by assumption) ?tk33003
      case hy33003 => (intro w hSw; (try dsimp only at hSw); go_simp; (try with_reducible rfl))
      try simp only [Act.put, List.setIfInBounds_toArray, List.set_cons_zero, List.set_cons_succ]
      refine AnyL.take2 (i := 3) (oi := { dst := some 35, op := Go.Op.load 72 (Go.Operand.tmp 34), type := 72, pos := _, after := #[{ on := 2, ground := Go.Ground.data }], guard := none }) (v := ?vv33004) (by kernel_rfl) (by kernel_rfl) rfl (by kernel_rfl) (by kernel_rfl) (by kernel_rfl) (fun _ _ _ h => h) (Or.inl ⟨by rfl, ?hy33004⟩) (by assumption) ?tk33004
      case hy33004 => (intro w hSw; (try dsimp only at hSw); go_simp; (try with_reducible rfl))
      try simp only [Act.put, List.setIfInBounds_toArray, List.set_cons_zero, List.set_cons_succ]
      refine AnyL.take2 (i := 4) (oi := { dst := some 36, op := Go.Op.fieldAddr 194 (Go.Operand.tmp 9) 2, type := 0, pos := _, after := #[], guard := none }) (v := ?vv33005) (by kernel_rfl) (by kernel_rfl) rfl (by kernel_rfl) (by kernel_rfl) (by kernel_rfl) (fun _ _ _ h => h) (Or.inl ⟨by rfl, ?hy33005⟩) (by assumption) ?tk33005
      case hy33005 => (intro w hSw; (try dsimp only at hSw); go_simp; (try with_reducible rfl))
      try simp only [Act.put, List.setIfInBounds_toArray, List.set_cons_zero, List.set_cons_succ]
      refine AnyL.take2 (i := 5) (oi := { dst := some 37, op := Go.Op.fieldAddr 120 (Go.Operand.tmp 36) 0, type := 0, pos := _, after := #[{ on := 4, ground := Go.Ground.data }], guard := none }) (v := ?vv33006) (by kernel_rfl) (by kernel_rfl) rfl (by kernel_rfl) (by kernel_rfl) (by kernel_rfl) (fun _ _ _ h => h) (Or.inl ⟨by rfl, ?hy33006⟩) (by assumption) ?tk33006
      case hy33006 => (intro w hSw; (try dsimp only at hSw); go_simp; (try with_reducible rfl))
      try simp only [Act.put, List.setIfInBounds_toArray, List.set_cons_zero, List.set_cons_succ]
      refine AnyL.take2 (i := 6) (oi := { dst := some 38, op := Go.Op.load 3 (Go.Operand.tmp 37), type := 3, pos := _, after := #[{ on := 5, ground := Go.Ground.data }], guard := none }) (v := ?vv33007) (by kernel_rfl) (by kernel_rfl) rfl (by kernel_rfl) (by kernel_rfl) (by kernel_rfl) (fun _ _ _ h => h) (Or.inl ⟨by rfl, ?hy33007⟩) (by assumption) ?tk33007
      case hy33007 => (intro w hSw; (try dsimp only at hSw); go_simp; (try with_reducible rfl))
      try simp only [Act.put, List.setIfInBounds_toArray, List.set_cons_zero, List.set_cons_succ]
      refine AnyL.take2 (i := 7) (oi := { dst := some 39, op := Go.Op.move (Go.Operand.tmp 7), type := 72, pos := _, after := #[], guard := none }) (v := ?vv33008) (by kernel_rfl) (by kernel_rfl) rfl (by kernel_rfl) (by kernel_rfl) (by kernel_rfl) (fun _ _ _ h => h) (Or.inl ⟨by rfl, ?hy33008⟩) (by assumption) ?tk33008
      case hy33008 => (intro w hSw; (try dsimp only at hSw); go_simp; (try with_reducible rfl))
      try simp only [Act.put, List.setIfInBounds_toArray, List.set_cons_zero, List.set_cons_succ]
      refine AnyL.take2 (i := 8) (oi := { dst := some 40, op := Go.Op.fieldAddr 194 (Go.Operand.tmp 9) 0, type := 0, pos := _, after := #[], guard := none }) (v := ?vv33009) (by kernel_rfl) (by kernel_rfl) rfl (by kernel_rfl) (by kernel_rfl) (by kernel_rfl) (fun _ _ _ h => h) (Or.inl ⟨by rfl, ?hy33009⟩) (by assumption) ?tk33009
      case hy33009 => (intro w hSw; (try dsimp only at hSw); go_simp; (try with_reducible rfl))
      try simp only [Act.put, List.setIfInBounds_toArray, List.set_cons_zero, List.set_cons_succ]
      refine AnyL.take2 (i := 9) (oi := { dst := some 41, op := Go.Op.load 3 (Go.Operand.tmp 40), type := 3, pos := _, after := #[{ on := 8, ground := Go.Ground.data }], guard := none }) (v := ?vv33010) (by kernel_rfl) (by kernel_rfl) rfl (by kernel_rfl) (by kernel_rfl) (by kernel_rfl) (fun _ _ _ h => h) (Or.inl ⟨by rfl, ?hy33010⟩) (by assumption) ?tk33010
      case hy33010 => (intro w hSw; (try dsimp only at hSw); go_simp; (try with_reducible rfl))
      try simp only [Act.put, List.setIfInBounds_toArray, List.set_cons_zero, List.set_cons_succ]
      refine AnyL.take2 (i := 10) (oi := { dst := some 42, op := Go.Op.indexAddr 72 (Go.Operand.tmp 39) (Go.Operand.tmp 41), type := 0, pos := _, after := #[{ on := 7, ground := Go.Ground.data }, { on := 9, ground := Go.Ground.data }], guard := none }) (v := ?vv33011) (by kernel_rfl) (by kernel_rfl) rfl (by kernel_rfl) (by kernel_rfl) (by kernel_rfl) (fun _ _ _ h => h) (Or.inl ⟨by rfl, ?hy33011⟩) (by assumption) ?tk33011
      case hy33011 => (intro w hSw; (try dsimp only at hSw); go_simp; (try with_reducible rfl))
      try simp only [Act.put, List.setIfInBounds_toArray, List.set_cons_zero, List.set_cons_succ]
      refine AnyL.take2 (i := 11) (oi := { dst := some 43, op := Go.Op.load 99 (Go.Operand.tmp 42), type := 99, pos := _, after := #[{ on := 10, ground := Go.Ground.data }], guard := none }) (v := ?vv33012) (by kernel_rfl) (by kernel_rfl) rfl (by kernel_rfl) (by kernel_rfl) (by kernel_rfl) (fun _ _ _ h => h) (Or.inl ⟨by rfl, ?hy33012⟩) (by assumption) ?tk33012
      case hy33012 => (intro w hSw; (try dsimp only at hSw); go_simp; (try with_reducible rfl))
      try simp only [Act.put, List.setIfInBounds_toArray, List.set_cons_zero, List.set_cons_succ]
      refine AnyL.take2 (i := 12) (oi := { dst := some 44, op := Go.Op.indexAddr 72 (Go.Operand.tmp 35) (Go.Operand.tmp 38), type := 0, pos := _, after := #[{ on := 3, ground := Go.Ground.data }, { on := 6, ground := Go.Ground.data }, { on := 0, ground := Go.Ground.phase }, { on := 1, ground := Go.Ground.phase }, { on := 2, ground := Go.Ground.phase }, { on := 3, ground := Go.Ground.phase }, { on := 4, ground := Go.Ground.phase }, { on := 5, ground := Go.Ground.phase }, { on := 6, ground := Go.Ground.phase }, { on := 7, ground := Go.Ground.phase }, { on := 8, ground := Go.Ground.phase }, { on := 9, ground := Go.Ground.phase }, { on := 10, ground := Go.Ground.phase }, { on := 11, ground := Go.Ground.phase }], guard := none }) (v := ?vv33013) (by kernel_rfl) (by kernel_rfl) rfl (by kernel_rfl) (by kernel_rfl) (by kernel_rfl) (fun _ _ _ h => h) (Or.inl ⟨by rfl, ?hy33013⟩) (by assumption) ?tk33013
      case hy33013 => (intro w hSw; (try dsimp only at hSw); go_simp; (try with_reducible rfl))
      try simp only [Act.put, List.setIfInBounds_toArray, List.set_cons_zero, List.set_cons_succ]
      refine AnyL.last (o := { dst := none, op := Go.Op.store 99 (Go.Operand.tmp 44) (Go.Operand.tmp 43), type := 0, pos := _, after := #[{ on := 12, ground := Go.Ground.data }, { on := 11, ground := Go.Ground.data }, { on := 0, ground := Go.Ground.phase }, { on := 1, ground := Go.Ground.phase }, { on := 2, ground := Go.Ground.phase }, { on := 3, ground := Go.Ground.phase }, { on := 4, ground := Go.Ground.phase }, { on := 5, ground := Go.Ground.phase }, { on := 6, ground := Go.Ground.phase }, { on := 7, ground := Go.Ground.phase }, { on := 8, ground := Go.Ground.phase }, { on := 9, ground := Go.Ground.phase }, { on := 10, ground := Go.Ground.phase }, { on := 11, ground := Go.Ground.phase }], guard := none }) (by kernel_rfl) rfl (by kernel_rfl) (fun K' hK' => ?_)
      go_simp
      clear hHeld
      refine hK'.out _ _ ?_
      clear hK' K'
      try simp only [Act.put, List.setIfInBounds_toArray, List.set_cons_zero, List.set_cons_succ]
      rw [setCell_self (show _ from z1)]
      go_wp2
      go_roundg (ρ.n - (i + 1))
      case measure => omega
      case rel => exact ⟨i + 1, by omega, by go_num, below_dr HW.out⟩
    · have i1 : ¬ ((i : Int) < (ρ.n : Int)) := by omega
      have e7 := cell_later bw d7
      have HW := hideIt bw
      clear bw
      go_wp2_with fail
      go_loopg [61] 0 (fun gg v wx => v = .int .i64 0 ∧ wx = wr)
      case atStart => exact ⟨rfl, rfl⟩
      case round =>
        obtain ⟨rfl, ew⟩ := hrel
        subst ew
        go_wp2
        go_ret
        exact ⟨rfl, then_ HB.out HW.out⟩
end Go.Proofs.Qxb6500880a
