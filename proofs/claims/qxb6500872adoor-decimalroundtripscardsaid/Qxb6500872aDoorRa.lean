/-
  What the row's argument and its listed variables give the walk.
-/
import Derived.Test.Qxb6500872aDoorMd
import Derived.ProofKit
import Derived.LaidLaws
import Derived.LaidHandle
import Derived.Deep.Slices
import Derived.Carry
import Derived.Stop.Joined
set_option linter.unusedVariables false
namespace Go.Proofs.Qxb6500872aDoor
open Go.ChangeShapes Go.WideShapes Go.ChangeAt Go.RowKit Go.Deep

theorem Tryd.tDiv : (Tryd.prog.globals[0]?).map (·.type) = some 40 := by kernel_rfl
theorem Tryd.tSyn : (Tryd.prog.globals[1]?).map (·.type) = some 40 := by kernel_rfl
theorem Tryd.tNeg : (Tryd.prog.globals[2]?).map (·.type) = some 40 := by kernel_rfl
theorem Tryd.cells103 : Tryd.prog.cellsOf 103 = 1 := by kernel_rfl
theorem Tryd.cells9 : Tryd.prog.cellsOf 9 = 1 := by kernel_rfl
theorem Tryd.cells34 : Tryd.prog.cellsOf 34 = 9 := by kernel_rfl
theorem Tryd.cells32 : Tryd.prog.cellsOf 32 = 1 := by kernel_rfl
theorem Tryd.cells3 : Tryd.prog.cellsOf 3 = 1 := by kernel_rfl
theorem Tryd.cells4 : Tryd.prog.cellsOf 4 = 1 := by kernel_rfl
theorem Tryd.cells25 : Tryd.prog.cellsOf 25 = 1 := by kernel_rfl
theorem Tryd.cells2 : Tryd.prog.cellsOf 2 = 1 := by kernel_rfl
theorem Tryd.cells61 : Tryd.prog.cellsOf 61 = 1 := by kernel_rfl
/-- The name that a datum's dynamic type bears. -/
def nameOf : DataW Unit → String
  | .iface s _ => s
  | _ => "none"
theorem Tryd.row85 (u : TypeId) (h : Tryd.prog.typeName? 3 u = some (nameOf Rows.laid_e2e_bignat_ErrSyntax)) : u = 85 :=
  typeName_ptr_named (nm := "errors.errorString") (by kernel_rfl) (by kernel_rfl) (by decide) u (h.trans (congrArg some (by decide)))

/-- The three sentinels. -/
theorem sents_of_laid {W : World} (h : laidMet Tryd.prog Rows.decimalRoundTripsRow.laid W) : ∃ (p0 p1 : Addr) (E2 : Value), Sents W p0 p1 E2 := by
  obtain ⟨ps, ⟨g0, t0, cs0, f0, p0, q0, hg0, ht0, hv0, hd0, ⟨g1, t1, cs1, f1, p1, q1, hg1, ht1, hv1, hd1, ⟨g2, t2, cs2, f2, p2, q2, hg2, ht2, hv2, hd2, hq2, e2⟩, e1⟩, e0⟩, hnd, hrows⟩ := h
  obtain rfl : g0 = 0 := Option.some.inj (hg0.symm.trans (by kernel_rfl))
  obtain rfl : g1 = 2 := Option.some.inj (hg1.symm.trans (by kernel_rfl))
  obtain rfl : g2 = 1 := Option.some.inj (hg2.symm.trans (by kernel_rfl))
  obtain rfl := Option.some.inj (Tryd.tDiv.symm.trans ht0)
  obtain rfl := Option.some.inj (Tryd.tNeg.symm.trans ht1)
  obtain rfl := Option.some.inj (Tryd.tSyn.symm.trans ht2)
  have hq2' : q2 = [] := hq2
  subst hq2'
  subst e2
  subst e1
  subst e0
  obtain ⟨l0⟩ := cs0
  obtain ⟨l1⟩ := cs1
  obtain ⟨l2⟩ := cs2
  have ok0 : ∀ u v, l0 = [.iface u v] → Value.okWide Tryd.prog W .any 0 u v := fun u v e => by
    subst e
    exact (hrows 0 0 (by simp [MemPlace.row])).2 u v (by simpa using World.var?_cell hg0 hv0 0)
  have ok1 : ∀ u v, l1 = [.iface u v] → Value.okWide Tryd.prog W .any 0 u v := fun u v e => by
    subst e
    exact (hrows 2 0 (by simp [MemPlace.row])).2 u v (by simpa using World.var?_cell hg1 hv1 0)
  have ok2 : ∀ u v, l2 = [.iface u v] → Value.okWide Tryd.prog W .any 0 u v := fun u v e => by
    subst e
    exact (hrows 1 0 (by simp [MemPlace.row])).2 u v (by simpa using World.var?_cell hg2 hv2 0)
  obtain ⟨a0, s0, rfl, hc0, hs0, hz0, rfl⟩ := errorString_of_trod Tryd.underlying40 Tryd.row85 Tryd.underlying85 Tryd.underlying103 rfl rfl Tryd.underlying9 Tryd.cells103 Tryd.cells9 hd0 ok0
  obtain ⟨a1, s1, rfl, hc1, hs1, hz1, rfl⟩ := errorString_of_trod Tryd.underlying40 Tryd.row85 Tryd.underlying85 Tryd.underlying103 rfl rfl Tryd.underlying9 Tryd.cells103 Tryd.cells9 hd1 ok1
  obtain ⟨a2, s2, rfl, hc2, hs2, hz2, rfl⟩ := errorString_of_trod Tryd.underlying40 Tryd.row85 Tryd.underlying85 Tryd.underlying103 rfl rfl Tryd.underlying9 Tryd.cells103 Tryd.cells9 hd2 ok2
  refine ⟨a0, a2, .iface 85 (.pointer (some a1)), ⟨by simpa using World.var?_cell hg0 hv0 0, by simpa using World.var?_cell hg2 hv2 0, by simpa using World.var?_cell hg1 hv1 0, ?_, ?_⟩⟩
  · exact (hrows a0.block a0.off (by simp [MemPlace.row])).1
  · exact (hrows a2.block a2.off (by simp [MemPlace.row])).1

section
variable {H : Type} {enc : TypeId × Value → H} {W : World}

theorem wf_i64 {n : Int} (h : (Lit.int .i64 n).wf = true) : -9223372036854775808 ≤ n ∧ n < 9223372036854775808 := by
  have e0 : IntKind.i64.min = -9223372036854775808 := by decide
  have e1 : IntKind.i64.max = 9223372036854775807 := by decide
  simp [Lit.wf] at h
  omega
theorem wf_u32 {n : Int} (h : (Lit.int .u32 n).wf = true) : 0 ≤ n ∧ n < 4294967296 := by
  have e0 : IntKind.u32.min = 0 := by decide
  have e1 : IntKind.u32.max = 4294967295 := by decide
  simp [Lit.wf] at h
  omega

/-- The limbs in a step. -/
theorem limbs_of_trod {fuel : Nat} {v : Value} {x : DataW H × List MemPlace} (h : DataW.trod enc Tryd.prog W 0 (fun _ => true) true fuel 25 [v] = some x) :
    ∃ lp ln lc, v = .slice lp ln lc ∧ (ln ≤ 128 → ∃ zs, Limbs W lp ln ln zs) := by
  rcases open_ints Tryd.underlying25 Tryd.underlying61 Tryd.cells61 h with ⟨h0, _⟩ | ⟨a, len, cap, zs, h0, _, hl, _, hz, _, hc, hw⟩
  · simp only [List.cons.injEq, and_true] at h0
    exact ⟨none, 0, 0, h0, fun _ => ⟨[], Limbs.nil W⟩⟩
  · simp only [List.cons.injEq, and_true] at h0
    refine ⟨some a, len, cap, h0, fun h128 => ⟨zs.take len, ?_⟩⟩
    simp only [if_true] at hz
    have hget : ∀ j, j < len → (zs.take len)[j]?.getD 0 = zs.getD j 0 := fun j hj => by
      rw [List.getElem?_take, if_pos hj, List.getD]
    refine ⟨by rw [List.length_take, hz]; omega, Nat.le_refl _, by omega, fun j => ?_, ?_⟩
    · by_cases hj : j < len
      · rw [hget j hj]
        have hjz : j < zs.length := by omega
        have hm : zs.getD j 0 ∈ zs := by
          rw [List.getD, List.getElem?_eq_getElem hjz]
          exact List.getElem_mem hjz
        exact wf_u32 (hw _ hm)
      · rw [List.getElem?_take, if_neg hj]
        simp
    · by_cases h0 : len = 0
      · exact .inl h0
      · right
        have hp : 0 < zs.length := by omega
        obtain ⟨b, off, rfl, hcell⟩ := ints_at hc hp
        exact ⟨b, off, rfl, fun j hj => by rw [hget j hj]; exact hcell j (by omega)⟩

/-- One step, opened. -/
theorem op_of_trod {fuel : Nat} {cs : List Value} {x : DataW H × List MemPlace} (h : DataW.trod enc Tryd.prog W 0 (fun _ => true) true fuel 34 cs = some x) :
    ∃ o : OpR, cs = [.int .i64 o.k, .int .i64 o.d, .int .i64 o.d2, .int .i64 o.a, .int .i64 o.b, .bool o.ng, .slice o.lp o.ln o.lc, .string o.s, .int .i64 o.wd] ∧
      (-9223372036854775808 ≤ o.wd ∧ o.wd < 9223372036854775808) ∧ (o.ln ≤ 128 → ∃ zs, Limbs W o.lp o.ln o.ln zs) := by
  obtain ⟨xs, n, _, _, hl, hxl, hf⟩ := DataW.trod_struct Tryd.underlying34 h
  rw [Tryd.cells34] at hl
  match cs, hl, xs, hxl with
  | [v0, v1, v2, v3, v4, v5, v6, v7, v8], _, [y0, y1, y2, y3, y4, y5, y6, y7, y8], _ =>
    have g0 := hf 0 _ rfl
    have g1 := hf 1 _ rfl
    have g2 := hf 2 _ rfl
    have g3 := hf 3 _ rfl
    have g4 := hf 4 _ rfl
    have g5 := hf 5 _ rfl
    have g6 := hf 6 _ rfl
    have g7 := hf 7 _ rfl
    have g8 := hf 8 _ rfl
    simp [Tryd.cells32, Tryd.cells3, Tryd.cells4, Tryd.cells25, Tryd.cells9, Tryd.cells2] at g0 g1 g2 g3 g4 g5 g6 g7 g8
    obtain ⟨k, h0, _, _⟩ := DataW.trod_int Tryd.underlying32 g0
    obtain ⟨d, h1, _, _⟩ := DataW.trod_int Tryd.underlying3 g1
    obtain ⟨d2, h2, _, _⟩ := DataW.trod_int Tryd.underlying3 g2
    obtain ⟨a, h3, _, _⟩ := DataW.trod_int Tryd.underlying3 g3
    obtain ⟨b, h4, _, _⟩ := DataW.trod_int Tryd.underlying3 g4
    obtain ⟨ng, h5, _⟩ := DataW.trod_bool Tryd.underlying4 g5
    obtain ⟨lp, ln, lc, h6, hL⟩ := limbs_of_trod g6
    obtain ⟨s, h7, _, _⟩ := DataW.trod_string Tryd.underlying9 g7
    obtain ⟨wd, h8, _, hw⟩ := DataW.trod_int Tryd.underlying2 g8
    simp only [List.cons.injEq, and_true] at h0 h1 h2 h3 h4 h5 h7 h8
    subst h0 h1 h2 h3 h4 h5 h6 h7 h8
    exact ⟨⟨k, d, d2, a, b, ng, lp, ln, lc, s, wd⟩, rfl, wf_i64 hw, hL⟩

/-- The script, opened. -/
theorem ops_of_trod {fuel : Nat} {p : Option Addr} {n c : Nat} {x : DataW H × List MemPlace} (h : DataW.trod enc Tryd.prog W 0 (fun _ => true) true fuel 22 [.slice p n c] = some x) :
    ∃ L : List OpR, OpsAt W p L ∧ L.length = n ∧ (∀ o ∈ L, -9223372036854775808 ≤ o.wd ∧ o.wd < 9223372036854775808) ∧ (∀ o ∈ L, o.ln ≤ 128 → ∃ zs, Limbs W o.lp o.ln o.ln zs) := by
  rcases open_slice Tryd.underlying22 h with ⟨h0, _⟩ | ⟨a, len, cap, m, f, D, Pl, h0, _, hl, _, hm, _, hx⟩
  · simp only [List.cons.injEq, and_true, Value.slice.injEq] at h0
    obtain ⟨rfl, rfl, rfl⟩ := h0
    exact ⟨[], .inl rfl, rfl, by simp, by simp⟩
  · simp only [List.cons.injEq, and_true, Value.slice.injEq] at h0
    obtain ⟨rfl, rfl, rfl⟩ := h0
    simp only [if_true] at hm
    have each : ∀ i, i < n → ∃ o : OpR, (∀ j v, [Value.int .i64 o.k, .int .i64 o.d, .int .i64 o.d2, .int .i64 o.a, .int .i64 o.b, .bool o.ng, .slice o.lp o.ln o.lc, .string o.s, .int .i64 o.wd][j]? = some v → W.cell? (a.add (i * 9 + j)) = some v) ∧
        (-9223372036854775808 ≤ o.wd ∧ o.wd < 9223372036854775808) ∧ (o.ln ≤ 128 → ∃ zs, Limbs W o.lp o.ln o.ln zs) := by
      intro i hi
      obtain ⟨cs', h1, h2⟩ := hx i (by omega)
      rw [Tryd.cells34] at h1
      obtain ⟨_, hlen, hcell⟩ := World.cells?_some h1
      obtain ⟨o, rfl, hw, hL⟩ := op_of_trod h2
      refine ⟨o, fun j v hv => ?_, hw, hL⟩
      have hj : j < 9 := by
        have := (List.getElem?_eq_some_iff.1 hv).1
        simpa using this
      have := hcell j hj
      rw [add_add, hv] at this
      exact this
    have hin : Inhabited OpR := ⟨⟨0, 0, 0, 0, 0, false, none, 0, 0, ⟨#[]⟩, 0⟩⟩
    obtain ⟨f, hf⟩ := choose_lt each
    refine ⟨(List.range n).map f, ?_, by simp, ?_, ?_⟩
    · by_cases hn : n = 0
      · left; simp [hn]
      · right
        obtain ⟨b, off, spot⟩ := a
        have hspot : spot = none := by
          have := (hf 0 (by omega)).1 0 _ rfl
          simpa [Addr.add] using World.cell?_spot this
        subst hspot
        refine ⟨b, off, rfl, fun j hj => ?_⟩
        have hj' : j < n := by simpa using hj
        have e : ((List.range n).map f)[j] = f j := by simp
        rw [e]
        have hc := (hf j hj').1
        have key : ∀ i v, [Value.int .i64 (f j).k, .int .i64 (f j).d, .int .i64 (f j).d2, .int .i64 (f j).a, .int .i64 (f j).b, .bool (f j).ng, .slice (f j).lp (f j).ln (f j).lc, .string (f j).s, .int .i64 (f j).wd][i]? = some v → W.cell? ⟨b, off + j * 9 + i, none⟩ = some v := fun i v hv => by
          have := hc i v hv
          rw [add_plain] at this
          rw [Nat.add_assoc]; exact this
        exact ⟨key 0 _ rfl, key 1 _ rfl, key 2 _ rfl, key 3 _ rfl, key 4 _ rfl, key 5 _ rfl, key 6 _ rfl, key 7 _ rfl, key 8 _ rfl⟩
    · intro o ho
      obtain ⟨i, hi, rfl⟩ := List.mem_map.1 ho
      exact (hf i (List.mem_range.1 hi)).2.1
    · intro o ho
      obtain ⟨i, hi, rfl⟩ := List.mem_map.1 ho
      exact (hf i (List.mem_range.1 hi)).2.2
end
end Go.Proofs.Qxb6500872aDoor
