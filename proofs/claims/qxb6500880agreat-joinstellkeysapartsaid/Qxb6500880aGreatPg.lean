import Derived.Deep.CutBlock
import Derived.OwnWalk
import Derived.Maps.AppendAt
import Derived.Maps.OwnSet
import Derived.Maps.OwnOps
import Derived.Laws.ResultCell
import Derived.Test.Qxb6500880aGreatPf
set_option linter.unusedVariables false
set_option linter.unusedSimpArgs false
namespace Go.Proofs.Qxb6500880aGreat
open Go.RowKit

set_option maxRecDepth 20000 in
set_option maxHeartbeats 8000000 in
theorem fits_any {w : World} {Q : RP} {x : RX} {gs o gj oj b ga ca n row : Nat} {nm : ByteArray} {s : RelS} {d ac ar : Nat → Nat} (X : RAt w Q x) (sgs : Q.S gs) (sgj : Q.S gj) (sga : Q.S ga) (sb : Q.S b) (SD : ∀ q, s.data.ownBlock = some q → Q.S q) (s0 : Q.w0.cell? ⟨gs, o, none⟩ = some (.pointer (some ⟨gj, oj, none⟩))) (s6 : Q.w0.cell? ⟨gs, o + 6, none⟩ = some (.slice (some ⟨ga, 0, none⟩) n ca)) (s7 : Q.w0.cell? ⟨gs, o + 7, none⟩ = some (.slice none 0 0)) (j0 : Q.w0.cell? ⟨gj, oj, none⟩ = some (.pointer (some ⟨b, 0, none⟩))) (H : RelAt Q.w0 b nm s) (hd : SymR Q.w0 s.data (s.rows * s.A) d) (hA0 : 0 < s.A) (hA : s.A ≤ 1000) (hR : s.rows ≤ 1000) (hrow : row < s.rows) (HA : ∀ t, t < n → Q.w0.cell? ⟨ga, t * 4, none⟩ = some (.int .i64 (ac t : Int)) ∧ Q.w0.cell? ⟨ga, t * 4 + 1, none⟩ = some (.bool true) ∧ Q.w0.cell? ⟨ga, t * 4 + 2, none⟩ = some (.int .i64 (ar t : Int)) ∧ Q.w0.cell? ⟨ga, t * 4 + 3, none⟩ = some (.int .u32 0)) (hac : ∀ t, t < n → ac t < s.A) (har : ∀ t, t < n → ar t < 3) (inj : ∀ t t', t < t' → t' < n → ar t ≠ ar t') (hn : n ≤ 100) :
    Calls Tryz.prog 87 #[.pointer (some ⟨Q.E, 0, none⟩), .pointer (some ⟨gs, o, none⟩), .int .i64 (row : Int)] w fun e w' => e = .returned (.bool true) ∧ ∃ x', RAt w' Q x' ∧ Nx x x' Ncn (fun k => ∃ t, t < n ∧ k = ar t) Ncn ∧ ∀ t, t < n → x'.r (ar t) = d (row * s.A + ac t) := by
  have hrw := row_any (X.rel sb H) (X.sym SD hd) hA0 hA hR hrow
  have c0 := X.cell sgs s0
  have k0 := X.cell sgj j0
  obtain ⟨A, hAe⟩ : ∃ A, s.A = A := ⟨_, rfl⟩
  rw [hAe] at hrw hac hA hA0
  have HQ := hideIt (And.intro X (And.intro HA (And.intro hac (And.intro har (And.intro inj (And.intro hAe (And.intro s6 s7)))))))
  clear X HA hac har inj s0 s6 s7 j0 H hd
  go_enter Tryz.func87, Tryz.ntmps87
  go_wp2_with fail
  refine hrw.mono ?_
  rintro e w1 ⟨v, rfl, HZ, hvb, ew⟩
  obtain ⟨X, HA, hac, har, inj, _, s6, s7⟩ := HQ.out
  have X1 : RAt w1 Q x := by rw [ew]; exact X.drew
  have d6 := X1.cell sgs s6
  obtain ⟨pd, cd, rfl, hcd, hd'⟩ := HZ
  obtain ⟨gd, od, rfl, hz⟩ : ∃ gd od, pd = some ⟨gd, od, none⟩ ∧ ∀ j, j < A → w1.cell? ⟨gd, od + j, none⟩ = some (.int .u32 (d (row * A + j) : Int)) := by
    rcases hd' with h | ⟨gd, od, e, h⟩
    · omega
    · exact ⟨gd, od, e, fun j hj => by rw [h j hj]⟩
  have sgd : Q.S gd := SD gd (hvb.symm.trans rfl)
  have hz : ∀ j, j < A → Q.w0.cell? ⟨gd, od + j, none⟩ = some (.int .u32 (d (row * A + j) : Int)) := fun j hj => ((World.cell?_of_block (a := ⟨gd, od + j, none⟩) (X1.st _ sgd).2).symm).trans (hz j hj)
  have HZ1 := hideIt (And.intro hz X1)
  clear ew hz hd' c0 k0 hrw X HA hac har inj s6 s7 X1
  go_wp2_with fail
  go_loopg [26] n (fun gg v wr => ∃ (i : Nat) (y : RX), i + gg = n ∧ v = .int .i64 (i : Int) ∧ RAt wr Q y ∧ Nx x y Ncn (fun k => ∃ t, t < n ∧ k = ar t) Ncn ∧ ∀ t, t < i → y.r (ar t) = d (row * A + ac t))
  case atStart => exact ⟨0, x, by omega, rfl, HZ1.out.2, Nx.refl _ _ _ _, fun t ht => by omega⟩
  case round =>
    obtain ⟨i, y, hi, rfl, Y, N, hv⟩ := hrel
    by_cases hin : i < n
    · have i0 : (0 : Int) ≤ i := by omega
      have i1 : (i : Int) < (n : Int) := by omega
      obtain ⟨X, HA, hac, har, inj, _, s6, s7⟩ := HQ.out
      obtain ⟨a0, a1, a2, a3⟩ := HA i hin
      have a0 := Y.cell sga a0
      have a1 := Y.cell sga a1
      have a2 := Y.cell sga a2
      have a3 := Y.cell sga a3
      have hxR := har i hin
      have hxA := hac i hin
      obtain ⟨xr, hxr⟩ : ∃ xr, ar i = xr := ⟨_, rfl⟩
      obtain ⟨xc, hxc⟩ : ∃ xc, ac i = xc := ⟨_, rfl⟩
      rw [hxr] at a2 hxR
      rw [hxc] at a0 hxA
      have x0 : (0 : Int) ≤ xr := by omega
      have x1 : (xr : Int) < 3 := by omega
      have x2 : (0 : Int) ≤ xc := by omega
      have x3 : (xc : Int) < (A : Int) := by omega
      have bA := one_alloc wr (.cells #[.int .i64 (xc : Int), .bool true, .int .i64 (xr : Int), .int .u32 0] 223)
      have YA := Y.below bA
      have y1 := YA.e.get YA.c21 (by omega)
      have y4 := YA.cell sgd (HZ1.out.1 xc hxA)
      have z1 := YA.rg xr hxR
      have zf := YA.rf
      have y2 : (wr.alloc (.cells #[.int .i64 (xc : Int), .bool true, .int .i64 (xr : Int), .int .u32 0] 223)).cell? ⟨wr.heap.size, 2, none⟩ = some (.int .i64 (xr : Int)) := by simp
      have y3 : (wr.alloc (.cells #[.int .i64 (xc : Int), .bool true, .int .i64 (xr : Int), .int .u32 0] 223)).cell? ⟨wr.heap.size, 0, none⟩ = some (.int .i64 (xc : Int)) := by simp
      obtain ⟨vv, hvv⟩ : ∃ vv, d (row * A + xc) = vv := ⟨_, rfl⟩
      rw [hvv] at y4
      have HW := hideIt (And.intro YA (And.intro N (And.intro hv (And.intro hxr (And.intro hxc hvv)))))
      clear X HA hac har inj s6 s7 bA Y N hv hxr hxc hvv YA
      go_upto_region 6 with fail
      clear a0 a1 a2 a3
      generalize hp9 : wr.heap.size = p9 at *
      generalize wr.alloc (.cells #[.int .i64 (xc : Int), .bool true, .int .i64 (xr : Int), .int .u32 0] 223) = wb at *
      refine wp_region_l (l := 13) (S := (fun w' => w'.cell? ⟨Q.E, 21, none⟩ = some (.slice (some ⟨Q.GR, 0, none⟩) 3 3) ∧ w'.cell? ⟨p9, 2, none⟩ = some (.int .i64 (xr : Int)) ∧ w'.cell? ⟨p9, 0, none⟩ = some (.int .i64 (xc : Int)) ∧ w'.cell? ⟨gd, od + xc, none⟩ = some (.int .u32 (vv : Int)))) (by kernel_rfl) ⟨y1, y2, y3, y4⟩ (fun hHeld => ?_)
      refine AnyL.take2 (i := 0) (oi := { dst := some 32, op := Go.Op.move (Go.Operand.tmp 0), type := 58, pos := _, after := #[], guard := none }) (v := ?vv38001) (by kernel_rfl) (by kernel_rfl) rfl (by kernel_rfl) (by kernel_rfl) (by kernel_rfl) (fun _ _ _ h => h) (Or.inl ⟨by rfl, ?hy38001⟩) (by assumption) ?tk38001
      case hy38001 => (intro w hSw; (try dsimp only at hSw); go_simp; (try with_reducible rfl))
      try simp only [Act.put, List.setIfInBounds_toArray, List.set_cons_zero, List.set_cons_succ]
      refine AnyL.take2 (i := 1) (oi := { dst := some 33, op := Go.Op.nilCheck (Go.Operand.tmp 32), type := 0, pos := _, after := #[{ on := 0, ground := Go.Ground.data }], guard := none }) (v := ?vv38002) (by kernel_rfl) (by kernel_rfl) rfl (by kernel_rfl) (by kernel_rfl) (by kernel_rfl) (fun _ _ _ h => h) (Or.inl ⟨by rfl, ?hy38002⟩) (by assumption) ?tk38002
      case hy38002 => (intro w hSw; (try dsimp only at hSw); go_simp; (try with_reducible rfl))
      try simp only [Act.put, List.setIfInBounds_toArray, List.set_cons_zero, List.set_cons_succ]
      refine AnyL.take2 (i := 2) (oi := { dst := some 34, op := Go.Op.fieldAddr 86 (Go.Operand.tmp 33) 11, type := 0, pos := _, after := #[{ on := 1, ground := Go.Ground.data }], guard := none }) (v := ?vv38003) (by kernel_rfl) (by kernel_rfl) rfl (by kernel_rfl) (by kernel_rfl) (by kernel_rfl) (fun _ _ _ h => h) (Or.inl ⟨by rfl, ?hy38003⟩) (by assumption) ?tk38003
      case hy38003 => (intro w hSw; (try dsimp only at hSw); go_simp; (try with_reducible rfl))
      try simp only [Act.put, List.setIfInBounds_toArray, List.set_cons_zero, List.set_cons_succ]
      refine AnyL.take2 (i := 3) (oi := { dst := some 35, op := Go.Op.load 83 (Go.Operand.tmp 34), type := 83, pos := _, after := #[{ on := 2, ground := Go.Ground.data }], guard := none }) (v := ?vv38004) (by kernel_rfl) (by kernel_rfl) rfl (by kernel_rfl) (by kernel_rfl) (by kernel_rfl) (fun _ _ _ h => h) (Or.inl ⟨by rfl, ?hy38004⟩) (by assumption) ?tk38004
      case hy38004 => (intro w hSw; (try dsimp only at hSw); go_simp; (try with_reducible rfl))
      try simp only [Act.put, List.setIfInBounds_toArray, List.set_cons_zero, List.set_cons_succ]
      refine AnyL.take2 (i := 4) (oi := { dst := some 36, op := Go.Op.fieldAddr 223 (Go.Operand.tmp 9) 2, type := 0, pos := _, after := #[], guard := none }) (v := ?vv38005) (by kernel_rfl) (by kernel_rfl) rfl (by kernel_rfl) (by kernel_rfl) (by kernel_rfl) (fun _ _ _ h => h) (Or.inl ⟨by rfl, ?hy38005⟩) (by assumption) ?tk38005
      case hy38005 => (intro w hSw; (try dsimp only at hSw); go_simp; (try with_reducible rfl))
      try simp only [Act.put, List.setIfInBounds_toArray, List.set_cons_zero, List.set_cons_succ]
      refine AnyL.take2 (i := 5) (oi := { dst := some 37, op := Go.Op.fieldAddr 136 (Go.Operand.tmp 36) 0, type := 0, pos := _, after := #[{ on := 4, ground := Go.Ground.data }], guard := none }) (v := ?vv38006) (by kernel_rfl) (by kernel_rfl) rfl (by kernel_rfl) (by kernel_rfl) (by kernel_rfl) (fun _ _ _ h => h) (Or.inl ⟨by rfl, ?hy38006⟩) (by assumption) ?tk38006
      case hy38006 => (intro w hSw; (try dsimp only at hSw); go_simp; (try with_reducible rfl))
      try simp only [Act.put, List.setIfInBounds_toArray, List.set_cons_zero, List.set_cons_succ]
      refine AnyL.take2 (i := 6) (oi := { dst := some 38, op := Go.Op.load 3 (Go.Operand.tmp 37), type := 3, pos := _, after := #[{ on := 5, ground := Go.Ground.data }], guard := none }) (v := ?vv38007) (by kernel_rfl) (by kernel_rfl) rfl (by kernel_rfl) (by kernel_rfl) (by kernel_rfl) (fun _ _ _ h => h) (Or.inl ⟨by rfl, ?hy38007⟩) (by assumption) ?tk38007
      case hy38007 => (intro w hSw; (try dsimp only at hSw); go_simp; (try with_reducible rfl))
      try simp only [Act.put, List.setIfInBounds_toArray, List.set_cons_zero, List.set_cons_succ]
      refine AnyL.take2 (i := 7) (oi := { dst := some 39, op := Go.Op.move (Go.Operand.tmp 7), type := 83, pos := _, after := #[], guard := none }) (v := ?vv38008) (by kernel_rfl) (by kernel_rfl) rfl (by kernel_rfl) (by kernel_rfl) (by kernel_rfl) (fun _ _ _ h => h) (Or.inl ⟨by rfl, ?hy38008⟩) (by assumption) ?tk38008
      case hy38008 => (intro w hSw; (try dsimp only at hSw); go_simp; (try with_reducible rfl))
      try simp only [Act.put, List.setIfInBounds_toArray, List.set_cons_zero, List.set_cons_succ]
      refine AnyL.take2 (i := 8) (oi := { dst := some 40, op := Go.Op.fieldAddr 223 (Go.Operand.tmp 9) 0, type := 0, pos := _, after := #[], guard := none }) (v := ?vv38009) (by kernel_rfl) (by kernel_rfl) rfl (by kernel_rfl) (by kernel_rfl) (by kernel_rfl) (fun _ _ _ h => h) (Or.inl ⟨by rfl, ?hy38009⟩) (by assumption) ?tk38009
      case hy38009 => (intro w hSw; (try dsimp only at hSw); go_simp; (try with_reducible rfl))
      try simp only [Act.put, List.setIfInBounds_toArray, List.set_cons_zero, List.set_cons_succ]
      refine AnyL.take2 (i := 9) (oi := { dst := some 41, op := Go.Op.load 3 (Go.Operand.tmp 40), type := 3, pos := _, after := #[{ on := 8, ground := Go.Ground.data }], guard := none }) (v := ?vv38010) (by kernel_rfl) (by kernel_rfl) rfl (by kernel_rfl) (by kernel_rfl) (by kernel_rfl) (fun _ _ _ h => h) (Or.inl ⟨by rfl, ?hy38010⟩) (by assumption) ?tk38010
      case hy38010 => (intro w hSw; (try dsimp only at hSw); go_simp; (try with_reducible rfl))
      try simp only [Act.put, List.setIfInBounds_toArray, List.set_cons_zero, List.set_cons_succ]
      refine AnyL.take2 (i := 10) (oi := { dst := some 42, op := Go.Op.indexAddr 83 (Go.Operand.tmp 39) (Go.Operand.tmp 41), type := 0, pos := _, after := #[{ on := 7, ground := Go.Ground.data }, { on := 9, ground := Go.Ground.data }], guard := none }) (v := ?vv38011) (by kernel_rfl) (by kernel_rfl) rfl (by kernel_rfl) (by kernel_rfl) (by kernel_rfl) (fun _ _ _ h => h) (Or.inl ⟨by rfl, ?hy38011⟩) (by assumption) ?tk38011
      case hy38011 => (intro w hSw; (try dsimp only at hSw); go_simp; (try with_reducible rfl))
      try simp only [Act.put, List.setIfInBounds_toArray, List.set_cons_zero, List.set_cons_succ]
      refine AnyL.take2 (i := 11) (oi := { dst := some 43, op := Go.Op.load 109 (Go.Operand.tmp 42), type := 109, pos := _, after := #[{ on := 10, ground := Go.Ground.data }], guard := none }) (v := ?vv38012) (by kernel_rfl) (by kernel_rfl) rfl (by kernel_rfl) (by kernel_rfl) (by kernel_rfl) (fun _ _ _ h => h) (Or.inl ⟨by rfl, ?hy38012⟩) (by assumption) ?tk38012
      case hy38012 => (intro w hSw; (try dsimp only at hSw); go_simp; (try with_reducible rfl))
      try simp only [Act.put, List.setIfInBounds_toArray, List.set_cons_zero, List.set_cons_succ]
      refine AnyL.take2 (i := 12) (oi := { dst := some 44, op := Go.Op.indexAddr 83 (Go.Operand.tmp 35) (Go.Operand.tmp 38), type := 0, pos := _, after := #[{ on := 3, ground := Go.Ground.data }, { on := 6, ground := Go.Ground.data }, { on := 0, ground := Go.Ground.phase }, { on := 1, ground := Go.Ground.phase }, { on := 2, ground := Go.Ground.phase }, { on := 3, ground := Go.Ground.phase }, { on := 4, ground := Go.Ground.phase }, { on := 5, ground := Go.Ground.phase }, { on := 6, ground := Go.Ground.phase }, { on := 7, ground := Go.Ground.phase }, { on := 8, ground := Go.Ground.phase }, { on := 9, ground := Go.Ground.phase }, { on := 10, ground := Go.Ground.phase }, { on := 11, ground := Go.Ground.phase }], guard := none }) (v := ?vv38013) (by kernel_rfl) (by kernel_rfl) rfl (by kernel_rfl) (by kernel_rfl) (by kernel_rfl) (fun _ _ _ h => h) (Or.inl ⟨by rfl, ?hy38013⟩) (by assumption) ?tk38013
      case hy38013 => (intro w hSw; (try dsimp only at hSw); go_simp; (try with_reducible rfl))
      try simp only [Act.put, List.setIfInBounds_toArray, List.set_cons_zero, List.set_cons_succ]
      refine AnyL.last (o := { dst := none, op := Go.Op.store 109 (Go.Operand.tmp 44) (Go.Operand.tmp 43), type := 0, pos := _, after := #[{ on := 12, ground := Go.Ground.data }, { on := 11, ground := Go.Ground.data }, { on := 0, ground := Go.Ground.phase }, { on := 1, ground := Go.Ground.phase }, { on := 2, ground := Go.Ground.phase }, { on := 3, ground := Go.Ground.phase }, { on := 4, ground := Go.Ground.phase }, { on := 5, ground := Go.Ground.phase }, { on := 6, ground := Go.Ground.phase }, { on := 7, ground := Go.Ground.phase }, { on := 8, ground := Go.Ground.phase }, { on := 9, ground := Go.Ground.phase }, { on := 10, ground := Go.Ground.phase }, { on := 11, ground := Go.Ground.phase }], guard := none }) (by kernel_rfl) rfl (by kernel_rfl) (fun K' hK' => ?_)
      go_simp
      clear hHeld
      refine hK'.out _ _ ?_
      clear hK' K'
      try simp only [Act.put, List.setIfInBounds_toArray, List.set_cons_zero, List.set_cons_succ]
      go_wp2
      obtain ⟨YA, N, hv, hxr, hxc, hvv⟩ := HW.out
      go_roundg (n - (i + 1))
      case measure => omega
      case rel =>
        refine ⟨i + 1, _, by omega, by go_num, YA.drew.put_r hxR vv, N.trans (Nx.put_r y (k := xr) (R := fun k => ∃ t, t < n ∧ k = ar t) ⟨i, hin, hxr.symm⟩ vv), fun t ht => ?_⟩
        show updN y.r xr vv (ar t) = _
        by_cases q : t = i
        · subst q
          rw [hxr, updN_same, hxc, hvv]
        · rw [updN_other _ _ (by rw [← hxr]; exact HQ.out.2.2.2.2.1 t i (by omega) hin)]
          exact hv t (by omega)
    · have i1 : ¬ ((i : Int) < (n : Int)) := by omega
      have e7 := Y.cell sgs HQ.out.2.2.2.2.2.2.2
      have HW := hideIt (And.intro Y (And.intro N hv))
      clear Y N hv
      go_wp2_with fail
      go_loopg [61] 0 (fun gg v wq => v = .int .i64 0 ∧ wq = wr)
      case atStart => exact ⟨rfl, rfl⟩
      case round =>
        obtain ⟨rfl, ew⟩ := hrel
        replace ew := ew.symm
        subst ew
        go_wp2
        go_ret
        obtain ⟨Y, N, hv⟩ := HW.out
        refine ⟨rfl, y, Y, N, fun t ht => ?_⟩
        rw [HQ.out.2.2.2.2.2.1]
        exact hv t (by omega)
end Go.Proofs.Qxb6500880aGreat
