import Derived.Deep.CutBlock
import Derived.OwnWalk
import Derived.Maps.AppendAt
import Derived.Test.Qxb6500880aGreatF
set_option linter.unusedVariables false
set_option linter.unusedSimpArgs false
namespace Go.Proofs.Qxb6500880aGreat
open Go.RowKit

/-- The columns of an index. -/
structure IxC (w : World) (IX gc cc n : Nat) (cf : Nat → Nat) : Prop where
  c0 : w.cell? ⟨IX, 0, none⟩ = some (.slice (some ⟨gc, 0, none⟩) n cc)
  c : ∀ j, j < n → w.cell? ⟨gc, j, none⟩ = some (.int .i64 (cf j : Int))
  nc : n ≤ cc
theorem IxC.keep {w w' : World} {IX gc cc n : Nat} {cf : Nat → Nat} (h : IxC w IX gc cc n cf) (e0 : w'.cell? ⟨IX, 0, none⟩ = w.cell? ⟨IX, 0, none⟩) (e : w'.heap[gc]? = w.heap[gc]?) : IxC w' IX gc cc n cf :=
  ⟨e0.trans h.c0, fun j hj => (World.cell?_of_block (a := ⟨gc, j, none⟩) e).trans (h.c j hj), h.nc⟩
theorem IxC.below {w w' : World} {IX gc cc n : Nat} {cf : Nat → Nat} (h : IxC w IX gc cc n cf) (hb : Below w.heap.size w w') : IxC w' IX gc cc n cf :=
  ⟨cell_later hb h.c0, fun j hj => cell_later hb (h.c j hj), h.nc⟩
/-- The key of row i. -/
def keyR (d : Nat → Nat) (A : Nat) (cf : Nat → Nat) (i : Nat) : Nat → Nat := fun j => d (i * A + cf j)
theorem row_lt {i rows A j : Nat} (hi : i < rows) (hj : j < A) : i * A + j < rows * A := by
  have q := Nat.mul_le_mul_right A (show i + 1 ≤ rows from hi)
  rw [Nat.add_mul] at q
  omega
set_option maxRecDepth 20000 in
set_option maxHeartbeats 8000000 in
theorem hashOf_any {w : World} {IX gc cc n b row : Nat} {cf : Nat → Nat} {nm : ByteArray} {s : RelS} {d : Nat → Nat} (HI : IxC w IX gc cc n cf) (H : RelAt w b nm s) (hd : SymR w s.data (s.rows * s.A) d) (hr : row < s.rows) (hcf : ∀ j, j < n → cf j < s.A) (a0 : 0 < s.A) (a1 : s.A ≤ 1000) (r1 : s.rows ≤ 1000) (val : ∀ j, j < s.rows * s.A → d j < 64) (hn : n ≤ 100) :
    Calls Tryz.prog 81 #[.pointer (some ⟨IX, 0, none⟩), .pointer (some ⟨b, 0, none⟩), .int .i64 (row : Int)] w fun e w' => e = .returned (.int .u64 (hashR (keyR d s.A cf row) n)) ∧ w' = w := by
  have h0 := HI.c0
  have h1 := H.ar
  have h3 := H.da
  obtain ⟨p, c, e, hc, hz⟩ := hd
  rw [e] at h3
  have hlt : ∀ j, j < n → row * s.A + cf j < s.rows * s.A := fun j hj => row_lt hr (hcf j hj)
  have hpos : 0 < s.rows * s.A := Nat.mul_pos (by omega) a0
  obtain ⟨g, off, rfl, hz2⟩ : ∃ g off, p = some ⟨g, off, none⟩ ∧ ∀ j, j < s.rows * s.A → w.cell? ⟨g, off + j, none⟩ = some (.int .u32 (d j : Int)) := by
    rcases hz with z | z
    · omega
    · exact z
  have hlA : row * s.A ≤ 1000000 := Nat.le_trans (Nat.mul_le_mul (show row ≤ 1000 by omega) a1) (by omega)
  have hLL : s.rows * s.A ≤ 1000000 := Nat.le_trans (Nat.mul_le_mul r1 a1) (by omega)
  obtain ⟨A, HA⟩ : ∃ A, Hid (s.A = A) := ⟨_, hideIt rfl⟩
  rw [HA.out] at h1 hlt hlA hLL h3 hz2 val hcf ⊢
  obtain ⟨L, HL⟩ : ∃ L, Hid (s.rows * A = L) := ⟨_, hideIt rfl⟩
  rw [HL.out] at h3 hlt hLL hz2 val
  obtain ⟨lo, HLo⟩ : ∃ lo, Hid (row * A = lo) := ⟨_, hideIt rfl⟩
  rw [HLo.out] at hlt hlA
  have hw1 : IntKind.i64.wrap ((row : Int) * (A : Int)) = (lo : Int) := by
    rw [show (row : Int) * (A : Int) = (lo : Int) by rw [← HLo.out]; exact (Int.natCast_mul row A).symm, IntKind.wrap_i64]
    omega
  have HZ := hideIt hz2
  have HV := hideIt val
  have HLT := hideIt hlt
  have HII := hideIt HI
  clear e H hz hz2 hc HI val hlt hcf hpos a0
  go_enter Tryz.func81, Tryz.ntmps81
  go_wp2_with fail
  go_loopg [22, 7] n (fun gg v h wr => ∃ i : Nat, i + gg = n ∧ v = .int .i64 (i : Int) ∧ h = .int .u64 (itR (keyR d A cf row) i) ∧ wr = w)
  case atStart => exact ⟨0, by omega, rfl, rfl, rfl⟩
  case round =>
    obtain ⟨i, hi, rfl, rfl, hwr⟩ := hrel
    subst hwr
    obtain ⟨hv, HVH⟩ : ∃ hv, Hid (itR (keyR d A cf row) i = hv) := ⟨_, hideIt rfl⟩
    rw [HVH.out]
    by_cases hin : i < n
    · have i0 : (0 : Int) ≤ i := by omega
      have i1 : (i : Int) < (n : Int) := by omega
      have a0 := HII.out.c i hin
      have hl := HLT.out i hin
      have hdv := HV.out _ hl
      have hz := HZ.out _ hl
      obtain ⟨k, HK⟩ : ∃ k, Hid (cf i = k) := ⟨_, hideIt rfl⟩
      have hkd : keyR d A cf row i = d (lo + k) := by rw [← HK.out, ← HLo.out]; rfl
      rw [HK.out] at a0 hl hdv hz
      have hw2 : IntKind.i64.wrap ((lo : Int) + (k : Int)) = ((lo + k : Nat) : Int) := by rw [IntKind.wrap_i64]; omega
      obtain ⟨m, HM⟩ : ∃ m, Hid (lo + k = m) := ⟨_, hideIt rfl⟩
      rw [HM.out] at hl hdv hz hw2
      have m0 : (0 : Int) ≤ m := by omega
      have m1 : (m : Int) < (L : Int) := by omega
      have hm := mix_any hv (d m) hdv wr
      have HKD := hideIt hkd
      clear hkd
      go_wp2_with fail
      refine hm.mono ?_
      rintro e w2 ⟨rfl, hw2⟩
      rw [hw2]
      clear hw2 hm
      go_wp2
      go_roundg (n - (i + 1))
      case measure => omega
      case rel =>
        refine ⟨i + 1, by omega, by go_num, ?_, rfl⟩
        show Value.int .u64 (mixF hv (d m)) = .int .u64 (mixF (itR (keyR d A cf row) i) (keyR d A cf row i))
        rw [HVH.out, HKD.out, HM.out]
    · have e : n = i := by omega
      subst e
      have hf := fold_any hv wr
      go_wp2_with fail
      refine hf.mono ?_
      rintro e w2 ⟨rfl, hw2⟩
      rw [hw2]
      clear hw2 hf
      go_wp2
      go_ret
      exact ⟨by rw [hashR, HVH.out]; rfl, rfl⟩
set_option maxRecDepth 20000 in
set_option maxHeartbeats 8000000 in
theorem matches_any {w : World} {IX gc cc n b row : Nat} {cf kr : Nat → Nat} {nm : ByteArray} {s : RelS} {d : Nat → Nat} {kv : Value} (HI : IxC w IX gc cc n cf) (H : RelAt w b nm s) (hd : SymR w s.data (s.rows * s.A) d) (HK : SymR w kv n kr) (hr : row < s.rows) (hcf : ∀ j, j < n → cf j < s.A) (a0 : 0 < s.A) (a1 : s.A ≤ 1000) (r1 : s.rows ≤ 1000) (hn : n ≤ 100) :
    Calls Tryz.prog 107 #[.pointer (some ⟨IX, 0, none⟩), .pointer (some ⟨b, 0, none⟩), .int .i64 (row : Int), kv] w fun e w' => e = .returned (.bool (eqR (keyR d s.A cf row) kr n)) ∧ Below w.heap.size w w' := by
  obtain ⟨pk, ck, rfl, hck, HKz⟩ := HK
  obtain ⟨p, c, e, hc, hz⟩ := hd
  have hlt : ∀ j, j < n → row * s.A + cf j < s.rows * s.A := fun j hj => row_lt hr (hcf j hj)
  have hpos : 0 < s.rows * s.A := Nat.mul_pos (by omega) a0
  obtain ⟨g, off, rfl, hz2⟩ : ∃ g off, p = some ⟨g, off, none⟩ ∧ ∀ j, j < s.rows * s.A → w.cell? ⟨g, off + j, none⟩ = some (.int .u32 (d j : Int)) := by
    rcases hz with z | z
    · omega
    · exact z
  have hlA : row * s.A ≤ 1000000 := Nat.le_trans (Nat.mul_le_mul (show row ≤ 1000 by omega) a1) (by omega)
  have hLL : s.rows * s.A ≤ 1000000 := Nat.le_trans (Nat.mul_le_mul r1 a1) (by omega)
  have HH := hideIt H
  have HII := hideIt HI
  have h0 := HI.c0
  have h1 := H.ar
  obtain ⟨A, HA⟩ : ∃ A, Hid (s.A = A) := ⟨_, hideIt rfl⟩
  rw [HA.out] at h1 hlt hlA hLL e hz2 hcf ⊢
  obtain ⟨L, HL⟩ : ∃ L, Hid (s.rows * A = L) := ⟨_, hideIt rfl⟩
  rw [HL.out] at e hlt hLL hz2
  obtain ⟨lo, HLo⟩ : ∃ lo, Hid (row * A = lo) := ⟨_, hideIt rfl⟩
  rw [HLo.out] at hlt hlA
  have hw1 : IntKind.i64.wrap ((row : Int) * (A : Int)) = (lo : Int) := by
    rw [show (row : Int) * (A : Int) = (lo : Int) by rw [← HLo.out]; exact (Int.natCast_mul row A).symm, IntKind.wrap_i64]
    omega
  have HE := hideIt e
  have HZ := hideIt hz2
  have HLT := hideIt hlt
  have HKK := hideIt HKz
  clear e H hz hz2 hc HI hlt hcf hpos a0 HKz
  go_enter Tryz.func107, Tryz.ntmps107
  go_wp2_with fail
  go_loopg [23] n (fun gg v wr => ∃ i : Nat, i + gg = n ∧ v = .int .i64 (i : Int) ∧ (∀ j, j < i → keyR d A cf row j = kr j) ∧ Below w.heap.size w wr)
  case atStart => exact ⟨0, by omega, rfl, fun j hj => by omega, Below.refl _ _⟩
  case round =>
    obtain ⟨i, hi, rfl, heq, hb⟩ := hrel
    have HEQ := hideIt heq
    clear heq
    by_cases hin : i < n
    · have i0 : (0 : Int) ≤ i := by omega
      have i1 : (i : Int) < (n : Int) := by omega
      have a0 := cell_later hb (HII.out.c i hin)
      have h3 := cell_later hb HH.out.da
      rw [HE.out] at h3
      have hl := HLT.out i hin
      have hz := cell_later hb (HZ.out _ hl)
      obtain ⟨gk, ok, rfl, hk⟩ : ∃ gk ok, pk = some ⟨gk, ok, none⟩ ∧ w.cell? ⟨gk, ok + i, none⟩ = some (.int .u32 (kr i : Int)) := by
        rcases HKK.out with z | ⟨gk, ok, e, z⟩
        · omega
        · exact ⟨gk, ok, e, z i hin⟩
      have hk := cell_later hb hk
      obtain ⟨k, HK⟩ : ∃ k, Hid (cf i = k) := ⟨_, hideIt rfl⟩
      have hkd : keyR d A cf row i = d (lo + k) := by rw [← HK.out, ← HLo.out]; rfl
      rw [HK.out] at a0 hl hz
      have hw2 : IntKind.i64.wrap ((lo : Int) + (k : Int)) = ((lo + k : Nat) : Int) := by rw [IntKind.wrap_i64]; omega
      obtain ⟨m, HM⟩ : ∃ m, Hid (lo + k = m) := ⟨_, hideIt rfl⟩
      rw [HM.out] at hl hz hw2 hkd
      have m0 : (0 : Int) ≤ m := by omega
      have m1 : (m : Int) < (L : Int) := by omega
      have HKD := hideIt hkd
      have HB := hideIt hb
      clear hkd hb
      go_upto_region 5 with fail
      refine wp_region_held_drew (S := (fun w' => w'.cell? ⟨b, 3, none⟩ = some (.slice (some ⟨g, off, none⟩) L c) ∧ w'.cell? ⟨g, off + m, none⟩ = some (.int .u32 (d m : Int)) ∧ w'.cell? ⟨gk, ok + i, none⟩ = some (.int .u32 (kr i : Int)))) (by kernel_rfl) ⟨h3, hz, hk⟩ (fun hHeld => ?_)
      refine wpAnyH_take (i := 0) (oi := { dst := some 28, op := Go.Op.move (Go.Operand.tmp 1), type := 99, pos := _, after := #[], guard := none }) (v := ?vv30001) rfl (by kernel_rfl) (by kernel_rfl) (by kernel_rfl) (fun _ _ _ h => h) (Or.inl ⟨by rfl, ?hy30001⟩) (by assumption) ?tk30001
      case hy30001 => (intro w hSw; (try dsimp only at hSw); go_simp; (try with_reducible rfl))
      try simp only [Act.put, List.setIfInBounds_toArray, List.set_cons_zero, List.set_cons_succ]
      refine wpAnyH_take (i := 1) (oi := { dst := some 29, op := Go.Op.nilCheck (Go.Operand.tmp 28), type := 0, pos := _, after := #[{ on := 0, ground := Go.Ground.data }], guard := none }) (v := ?vv30002) rfl (by kernel_rfl) (by kernel_rfl) (by kernel_rfl) (fun _ _ _ h => h) (Or.inl ⟨by rfl, ?hy30002⟩) (by assumption) ?tk30002
      case hy30002 => (intro w hSw; (try dsimp only at hSw); go_simp; (try with_reducible rfl))
      try simp only [Act.put, List.setIfInBounds_toArray, List.set_cons_zero, List.set_cons_succ]
      refine wpAnyH_take (i := 2) (oi := { dst := some 30, op := Go.Op.fieldAddr 98 (Go.Operand.tmp 29) 3, type := 0, pos := _, after := #[{ on := 1, ground := Go.Ground.data }], guard := none }) (v := ?vv30003) rfl (by kernel_rfl) (by kernel_rfl) (by kernel_rfl) (fun _ _ _ h => h) (Or.inl ⟨by rfl, ?hy30003⟩) (by assumption) ?tk30003
      case hy30003 => (intro w hSw; (try dsimp only at hSw); go_simp; (try with_reducible rfl))
      try simp only [Act.put, List.setIfInBounds_toArray, List.set_cons_zero, List.set_cons_succ]
      refine wpAnyH_take (i := 3) (oi := { dst := some 31, op := Go.Op.load 83 (Go.Operand.tmp 30), type := 83, pos := _, after := #[{ on := 2, ground := Go.Ground.data }], guard := none }) (v := ?vv30004) rfl (by kernel_rfl) (by kernel_rfl) (by kernel_rfl) (fun _ _ _ h => h) (Or.inl ⟨by rfl, ?hy30004⟩) (by assumption) ?tk30004
      case hy30004 => (intro w hSw; (try dsimp only at hSw); go_simp; (try with_reducible rfl))
      try simp only [Act.put, List.setIfInBounds_toArray, List.set_cons_zero, List.set_cons_succ]
      refine wpAnyH_take (i := 4) (oi := { dst := some 32, op := Go.Op.move (Go.Operand.tmp 9), type := 3, pos := _, after := #[], guard := none }) (v := ?vv30005) rfl (by kernel_rfl) (by kernel_rfl) (by kernel_rfl) (fun _ _ _ h => h) (Or.inl ⟨by rfl, ?hy30005⟩) (by assumption) ?tk30005
      case hy30005 => (intro w hSw; (try dsimp only at hSw); go_simp; (try with_reducible rfl))
      try simp only [Act.put, List.setIfInBounds_toArray, List.set_cons_zero, List.set_cons_succ]
      refine wpAnyH_take (i := 5) (oi := { dst := some 33, op := Go.Op.move (Go.Operand.tmp 11), type := 3, pos := _, after := #[], guard := none }) (v := ?vv30006) rfl (by kernel_rfl) (by kernel_rfl) (by kernel_rfl) (fun _ _ _ h => h) (Or.inl ⟨by rfl, ?hy30006⟩) (by assumption) ?tk30006
      case hy30006 => (intro w hSw; (try dsimp only at hSw); go_simp; (try with_reducible rfl))
      try simp only [Act.put, List.setIfInBounds_toArray, List.set_cons_zero, List.set_cons_succ]
      refine wpAnyH_take (i := 6) (oi := { dst := some 34, op := Go.Op.binOp Go.BinOp.add 3 (Go.Operand.tmp 32) (Go.Operand.tmp 33) 3, type := 3, pos := _, after := #[{ on := 4, ground := Go.Ground.data }, { on := 5, ground := Go.Ground.data }], guard := none }) (v := ?vv30007) rfl (by kernel_rfl) (by kernel_rfl) (by kernel_rfl) (fun _ _ _ h => h) (Or.inl ⟨by rfl, ?hy30007⟩) (by assumption) ?tk30007
      case hy30007 => (intro w hSw; (try dsimp only at hSw); go_simp; (try with_reducible rfl))
      try simp only [Act.put, List.setIfInBounds_toArray, List.set_cons_zero, List.set_cons_succ]
      refine wpAnyH_take (i := 7) (oi := { dst := some 35, op := Go.Op.indexAddr 83 (Go.Operand.tmp 31) (Go.Operand.tmp 34), type := 0, pos := _, after := #[{ on := 3, ground := Go.Ground.data }, { on := 6, ground := Go.Ground.data }], guard := none }) (v := ?vv30008) rfl (by kernel_rfl) (by kernel_rfl) (by kernel_rfl) (fun _ _ _ h => h) (Or.inl ⟨by rfl, ?hy30008⟩) (by assumption) ?tk30008
      case hy30008 => (intro w hSw; (try dsimp only at hSw); go_simp; (try with_reducible rfl))
      try simp only [Act.put, List.setIfInBounds_toArray, List.set_cons_zero, List.set_cons_succ]
      refine wpAnyH_take (i := 8) (oi := { dst := some 36, op := Go.Op.load 109 (Go.Operand.tmp 35), type := 109, pos := _, after := #[{ on := 7, ground := Go.Ground.data }], guard := none }) (v := ?vv30009) rfl (by kernel_rfl) (by kernel_rfl) (by kernel_rfl) (fun _ _ _ h => h) (Or.inl ⟨by rfl, ?hy30009⟩) (by assumption) ?tk30009
      case hy30009 => (intro w hSw; (try dsimp only at hSw); go_simp; (try with_reducible rfl))
      try simp only [Act.put, List.setIfInBounds_toArray, List.set_cons_zero, List.set_cons_succ]
      refine wpAnyH_take (i := 9) (oi := { dst := some 37, op := Go.Op.move (Go.Operand.tmp 3), type := 83, pos := _, after := #[], guard := none }) (v := ?vv30010) rfl (by kernel_rfl) (by kernel_rfl) (by kernel_rfl) (fun _ _ _ h => h) (Or.inl ⟨by rfl, ?hy30010⟩) (by assumption) ?tk30010
      case hy30010 => (intro w hSw; (try dsimp only at hSw); go_simp; (try with_reducible rfl))
      try simp only [Act.put, List.setIfInBounds_toArray, List.set_cons_zero, List.set_cons_succ]
      refine wpAnyH_take (i := 10) (oi := { dst := some 38, op := Go.Op.move (Go.Operand.tmp 10), type := 3, pos := _, after := #[], guard := none }) (v := ?vv30011) rfl (by kernel_rfl) (by kernel_rfl) (by kernel_rfl) (fun _ _ _ h => h) (Or.inl ⟨by rfl, ?hy30011⟩) (by assumption) ?tk30011
      case hy30011 => (intro w hSw; (try dsimp only at hSw); go_simp; (try with_reducible rfl))
      try simp only [Act.put, List.setIfInBounds_toArray, List.set_cons_zero, List.set_cons_succ]
      refine wpAnyH_take (i := 11) (oi := { dst := some 39, op := Go.Op.indexAddr 83 (Go.Operand.tmp 37) (Go.Operand.tmp 38), type := 0, pos := _, after := #[{ on := 9, ground := Go.Ground.data }, { on := 10, ground := Go.Ground.data }], guard := none }) (v := ?vv30012) rfl (by kernel_rfl) (by kernel_rfl) (by kernel_rfl) (fun _ _ _ h => h) (Or.inl ⟨by rfl, ?hy30012⟩) (by assumption) ?tk30012
      case hy30012 => (intro w hSw; (try dsimp only at hSw); go_simp; (try with_reducible rfl))
      try simp only [Act.put, List.setIfInBounds_toArray, List.set_cons_zero, List.set_cons_succ]
      refine wpAnyH_take (i := 12) (oi := { dst := some 40, op := Go.Op.load 109 (Go.Operand.tmp 39), type := 109, pos := _, after := #[{ on := 11, ground := Go.Ground.data }], guard := none }) (v := ?vv30013) rfl (by kernel_rfl) (by kernel_rfl) (by kernel_rfl) (fun _ _ _ h => h) (Or.inl ⟨by rfl, ?hy30013⟩) (by assumption) ?tk30013
      case hy30013 => (intro w hSw; (try dsimp only at hSw); go_simp; (try with_reducible rfl))
      try simp only [Act.put, List.setIfInBounds_toArray, List.set_cons_zero, List.set_cons_succ]
      refine wpAnyH_take (i := 13) (oi := { dst := some 41, op := Go.Op.binOp Go.BinOp.neq 109 (Go.Operand.tmp 36) (Go.Operand.tmp 40) 109, type := 4, pos := _, after := #[{ on := 8, ground := Go.Ground.data }, { on := 12, ground := Go.Ground.data }], guard := none }) (v := ?vv30014) rfl (by kernel_rfl) (by kernel_rfl) (by kernel_rfl) (fun _ _ _ h => h) (Or.inl ⟨by rfl, ?hy30014⟩) (by assumption) ?tk30014
      case hy30014 => (intro w hSw; (try dsimp only at hSw); go_simp; (try with_reducible rfl))
      try simp only [Act.put, List.setIfInBounds_toArray, List.set_cons_zero, List.set_cons_succ]
      refine wpAnyH_done (by kernel_rfl) ?_ _
      clear hHeld
      by_cases hq : d m = kr i
      · have hne : ((d m : Int) != (kr i : Int)) = false := by rw [hq]; simp
        have hne2 : (d m : Int) = (kr i : Int) := by rw [hq]
        have HQ := hideIt hq
        rw [hne2]
        clear hq
        go_wp2
        go_roundg (n - (i + 1))
        case measure => omega
        case rel => exact ⟨i + 1, by omega, by go_num, fun j hj => by
          by_cases e : j = i
          · subst e; rw [HKD.out, HQ.out]
          · exact HEQ.out j (by omega), below_dr HB.out⟩
      · have hne2 : ¬ ((d m : Int) = (kr i : Int)) := by omega
        have HQ := hideIt hq
        clear hq
        go_wp2
        go_ret
        exact ⟨by rw [eqR_false hin (by rw [HKD.out]; exact HQ.out)]; rfl, below_dr HB.out⟩
    · have e : n = i := by omega
      subst e
      go_wp2
      go_ret
      exact ⟨by rw [(eqR_iff _ kr n).2 HEQ.out]; rfl, hb⟩
end Go.Proofs.Qxb6500880aGreat
