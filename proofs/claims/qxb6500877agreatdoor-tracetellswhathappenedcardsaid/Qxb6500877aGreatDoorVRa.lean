import Derived.Test.Qxb6500877aGreatDoorPMl
import Derived.ProofKit
import Derived.LaidLaws
import Derived.LaidHandle
import Derived.Deep.Slices
import Derived.Carry
import Derived.Stop.Joined
import Derived.OpenShut
set_option linter.unusedVariables false
namespace Go.Proofs.Qxb6500877aGreatDoor
open Go.ChangeShapes Go.WideShapes Go.ChangeAt Go.RowKit Go.Deep

theorem Tryz.tVac : (Tryz.prog.globals[0]?).map (·.type) = some 177 := by kernel_rfl
theorem Tryz.tTab : (Tryz.prog.globals[2]?).map (·.type) = some 307 := by kernel_rfl
theorem Tryz.cells32 : Tryz.prog.cellsOf 32 = 6 := by kernel_rfl
theorem Tryz.cells30 : Tryz.prog.cellsOf 30 = 1 := by kernel_rfl
theorem Tryz.cells2 : Tryz.prog.cellsOf 2 = 1 := by kernel_rfl
theorem Tryz.cells28 : Tryz.prog.cellsOf 28 = 1 := by kernel_rfl
theorem Tryz.cells5 : Tryz.prog.cellsOf 5 = 1 := by kernel_rfl
theorem Tryz.cells46 : Tryz.prog.cellsOf 46 = 1 := by kernel_rfl
theorem Tryz.cells34 : Tryz.prog.cellsOf 34 = 1 := by kernel_rfl
theorem Tryz.cells157 : Tryz.prog.cellsOf 157 = 1 := by kernel_rfl
theorem Tryz.cells177 : Tryz.prog.cellsOf 177 = 5 := by kernel_rfl
theorem Tryz.cells307 : Tryz.prog.cellsOf 307 = 64 := by kernel_rfl
theorem Tryz.und307 : Tryz.prog.underlying 307 = some (.array 64 5) := by kernel_rfl
theorem Tryz.und5 : Tryz.prog.underlying 5 = some (.int .u8) := by kernel_rfl
theorem laid_tab_eq : (Rows.laid_math_bits_deBruijn64tab : DataW Unit) = .agg (tab64.map (fun v => .lit (.int .u8 ((v : Nat) : Int)))) := rfl

set_option maxRecDepth 100000 in
/-- The table, and the vacant row, as the program's own start lays them. -/
theorem laid_parts {W : World} (h : laidMet Tryz.prog Rows.traceTellsWhatHappenedRow.laid W) : TabAt W ∧ Vac W := by
  obtain ⟨ps, ⟨g0, t0, cs0, f0, p0, q0, hg0, ht0, hv0, hd0, ⟨g1, t1, cs1, f1, p1, q1, hg1, ht1, hv1, hd1, hq1, e1⟩, e0⟩, hnd, hrows⟩ := h
  obtain rfl : g0 = 2 := Option.some.inj (hg0.symm.trans (by kernel_rfl))
  obtain rfl : g1 = 0 := Option.some.inj (hg1.symm.trans (by kernel_rfl))
  obtain rfl := Option.some.inj (Tryz.tTab.symm.trans ht0)
  obtain rfl := Option.some.inj (Tryz.tVac.symm.trans ht1)
  obtain ⟨l0⟩ := cs0
  obtain ⟨l1⟩ := cs1
  refine ⟨fun k hk => ?_, ?_⟩
  · obtain ⟨xs, m, _, hx, hl, hxl, hf⟩ := DataW.trod_array Tryz.und307 hd0
    rw [Tryz.cells307] at hl
    have hlen : l0.length = 64 := by simpa using hl
    have g := hf k hk
    rw [Tryz.cells5] at g
    have hkl : k < l0.length := by omega
    have e1 : (l0.drop (k * 1)).take 1 = [l0[k]] := by
      rw [Nat.mul_one, List.drop_eq_getElem_cons hkl]
      rfl
    have g' := g
    rw [show (List.take 1 (List.drop (k * 1) ({ toList := l0 } : Array Value).toList)) = [l0[k]] from e1] at g'
    have hkx : k < xs.length := by omega
    rw [List.getElem?_eq_getElem hkx] at g'
    obtain ⟨n, h1, h2, _⟩ := DataW.trod_int Tryz.und5 g'
    have h1' : l0[k] = .int .u8 n := by simpa using h1
    have hx1 : (Rows.laid_math_bits_deBruijn64tab : DataW Unit) = .agg (xs.map (·.1)) := (Prod.mk.inj hx).1
    rw [laid_tab_eq] at hx1
    have hx2 : tab64.map (fun v => DataW.lit (.int .u8 ((v : Nat) : Int))) = xs.map (·.1) := by injection hx1
    have h3 := congrArg (fun z => z[k]?) hx2
    have htl : k < tab64.length := by simpa [tab64] using hk
    simp only [List.getElem?_map, List.getElem?_eq_getElem hkx, List.getElem?_eq_getElem htl, Option.map_some, Option.some.injEq] at h3
    rw [h2] at h3
    have h4 : ((tab64[k] : Nat) : Int) = n := by
      have := DataW.lit.inj h3
      exact (Lit.int.inj this).2
    have hc := World.var?_cell hg0 hv0 k
    rw [hc]
    rw [show ({ toList := l0 } : Array Value) = l0.toArray from rfl, List.getElem?_toArray]
    rw [List.getElem?_eq_getElem hkl, h1', ← h4, List.getD, List.getElem?_eq_getElem htl]
    rfl
  · obtain ⟨xs, m, _, hx, hl, hxl, hf⟩ := DataW.trod_struct Tryz.underlying177 hd1
    rw [Tryz.cells177] at hl
    have hlen : l1.length = 5 := by simpa using hl
    match l1, hlen, xs, hxl with
    | [v0, v1, v2, v3, v4], _, [y0, y1, y2, y3, y4], _ =>
      have g0 := hf 0 _ rfl
      have g1 := hf 1 _ rfl
      have g2 := hf 2 _ rfl
      have g3 := hf 3 _ rfl
      have g4 := hf 4 _ rfl
      simp [Tryz.cells46, Tryz.cells34, Tryz.cells157] at g0 g1 g2 g3 g4
      obtain ⟨n0, h0, k0, _⟩ := DataW.trod_int Tryz.underlying46 g0
      obtain ⟨n1, h1, k1, _⟩ := DataW.trod_int Tryz.underlying34 g1
      obtain ⟨n2, h2, k2, _⟩ := DataW.trod_int Tryz.underlying157 g2
      obtain ⟨n3, h3, k3, _⟩ := DataW.trod_int Tryz.underlying157 g3
      obtain ⟨n4, h4, k4, _⟩ := DataW.trod_int Tryz.underlying157 g4
      simp only [List.cons.injEq, and_true] at h0 h1 h2 h3 h4
      subst h0 h1 h2 h3 h4
      subst k0 k1 k2 k3 k4
      simp [Rows.laid_e2e_machine_vacantTask] at hx
      obtain ⟨⟨rfl, rfl, rfl, rfl, rfl⟩, _⟩ := hx
      exact ⟨by simpa using World.var?_cell hg1 hv1 0, by simpa using World.var?_cell hg1 hv1 1, by simpa using World.var?_cell hg1 hv1 2, by simpa using World.var?_cell hg1 hv1 3, by simpa using World.var?_cell hg1 hv1 4⟩

section
variable {H : Type} {enc : TypeId × Value → H} {W : World}
theorem wf_u8 {n : Int} (h : (Lit.int .u8 n).wf = true) : 0 ≤ n ∧ n < 256 := by
  have e0 : IntKind.u8.min = 0 := by decide
  have e1 : IntKind.u8.max = 255 := by decide
  simp [Lit.wf] at h
  omega
theorem wf_u64 {n : Int} (h : (Lit.int .u64 n).wf = true) : 0 ≤ n ∧ n < 18446744073709551616 := by
  have e0 : IntKind.u64.min = 0 := by decide
  have e1 : IntKind.u64.max = 18446744073709551615 := by decide
  simp [Lit.wf] at h
  omega
set_option maxRecDepth 100000 in
/-- One step, opened. -/
theorem op_of_trod {fuel : Nat} {cs : List Value} {x : DataW H × List MemPlace} (h : DataW.trod enc Tryz.prog W 0 (fun _ => true) true fuel 32 cs = some x) :
    ∃ o : OpS, cs = [.int .u8 o.kd, .int .i64 o.a, .int .i64 o.b, .int .i64 o.c, .int .u64 o.x, .int .u64 o.y] ∧ o.ok := by
  obtain ⟨xs, n, _, _, hl, hxl, hf⟩ := DataW.trod_struct Tryz.underlying32 h
  rw [Tryz.cells32] at hl
  match cs, hl, xs, hxl with
  | [v0, v1, v2, v3, v4, v5], _, [y0, y1, y2, y3, y4, y5], _ =>
    have g0 := hf 0 _ rfl
    have g1 := hf 1 _ rfl
    have g2 := hf 2 _ rfl
    have g3 := hf 3 _ rfl
    have g4 := hf 4 _ rfl
    have g5 := hf 5 _ rfl
    simp [Tryz.cells30, Tryz.cells2, Tryz.cells28] at g0 g1 g2 g3 g4 g5
    obtain ⟨k, h0, _, w0⟩ := DataW.trod_int Tryz.underlying30 g0
    obtain ⟨a, h1, _, _⟩ := DataW.trod_int Tryz.underlying2 g1
    obtain ⟨b, h2, _, _⟩ := DataW.trod_int Tryz.underlying2 g2
    obtain ⟨c, h3, _, _⟩ := DataW.trod_int Tryz.underlying2 g3
    obtain ⟨x, h4, _, w4⟩ := DataW.trod_int Tryz.underlying28 g4
    obtain ⟨y, h5, _, w5⟩ := DataW.trod_int Tryz.underlying28 g5
    simp only [List.cons.injEq, and_true] at h0 h1 h2 h3 h4 h5
    subst h0 h1 h2 h3 h4 h5
    have b0 := wf_u8 w0
    have b4 := wf_u64 w4
    have b5 := wf_u64 w5
    refine ⟨⟨k.toNat, a, b, c, x.toNat, y.toNat⟩, ?_, ⟨by show k.toNat < 256; omega, by show x.toNat < _; omega, by show y.toNat < _; omega⟩⟩
    rw [show ((k.toNat : Nat) : Int) = k by omega, show ((x.toNat : Nat) : Int) = x by omega, show ((y.toNat : Nat) : Int) = y by omega]
/-- The script, opened. -/
theorem ops_of_trod {fuel : Nat} {p : Option Addr} {n c : Nat} {x : DataW H × List MemPlace} (h : DataW.trod enc Tryz.prog W 0 (fun _ => true) true fuel 22 [.slice p n c] = some x) :
    ∃ L : List OpS, OpsIn W p L ∧ L.length = n ∧ (∀ o ∈ L, o.ok) ∧ n ≤ c := by
  rcases open_slice Tryz.underlying22 h with ⟨h0, _⟩ | ⟨a, len, cap, m, f, D, Pl, h0, _, hl, _, hm, _, hx⟩
  · simp only [List.cons.injEq, and_true, Value.slice.injEq] at h0
    obtain ⟨rfl, rfl, rfl⟩ := h0
    exact ⟨[], .inl rfl, rfl, by simp, by omega⟩
  · simp only [List.cons.injEq, and_true, Value.slice.injEq] at h0
    obtain ⟨rfl, rfl, rfl⟩ := h0
    simp only [if_true] at hm
    have each : ∀ i, i < n → ∃ o : OpS, (∀ j v, [Value.int .u8 o.kd, .int .i64 o.a, .int .i64 o.b, .int .i64 o.c, .int .u64 o.x, .int .u64 o.y][j]? = some v → W.cell? (a.add (i * 6 + j)) = some v) ∧ o.ok := by
      intro i hi
      obtain ⟨cs', h1, h2⟩ := hx i (by omega)
      rw [Tryz.cells32] at h1
      obtain ⟨_, hlen, hcell⟩ := World.cells?_some h1
      obtain ⟨o, rfl, hw⟩ := op_of_trod h2
      refine ⟨o, fun j v hv => ?_, hw⟩
      have hj : j < 6 := by
        have := (List.getElem?_eq_some_iff.1 hv).1
        simpa using this
      have := hcell j hj
      rw [add_add, hv] at this
      exact this
    have hin : Inhabited OpS := ⟨⟨0, 0, 0, 0, 0, 0⟩⟩
    obtain ⟨f, hf⟩ := choose_lt each
    refine ⟨(List.range n).map f, ?_, by simp, ?_, hl⟩
    · by_cases hn : n = 0
      · left; simp [hn]
      · right
        obtain ⟨b, off, spot⟩ := a
        have hspot : spot = none := by
          have := (hf 0 (by omega)).1 0 _ rfl
          simpa [Addr.add] using World.cell?_spot this
        subst hspot
        refine ⟨b, off, rfl, fun j hj => ?_⟩
        have hj' : j < n := by simpa using hj
        have e : ((List.range n).map f)[j] = f j := by simp
        rw [e]
        have hc := (hf j hj').1
        have key : ∀ i v, [Value.int .u8 (f j).kd, .int .i64 (f j).a, .int .i64 (f j).b, .int .i64 (f j).c, .int .u64 (f j).x, .int .u64 (f j).y][i]? = some v → W.cell? ⟨b, off + j * 6 + i, none⟩ = some v := fun i v hv => by
          have := hc i v hv
          rw [add_plain] at this
          rw [Nat.add_assoc]; exact this
        exact ⟨key 0 _ rfl, key 1 _ rfl, key 2 _ rfl, key 3 _ rfl, key 4 _ rfl, key 5 _ rfl⟩
    · intro o ho
      obtain ⟨i, hi, rfl⟩ := List.mem_map.1 ho
      exact (hf i (List.mem_range.1 hi)).2
end
end Go.Proofs.Qxb6500877aGreatDoor
