import Derived.Deep.CutBlock
import Derived.OwnWalk
import Derived.Maps.AppendAt
import Derived.Maps.OwnSet
import Derived.Maps.OwnOps
import Derived.Laws.ResultCell
import Derived.Laws.AppendOwnNone
import Derived.Test.Qxb6500880aGreatQh
set_option linter.unusedVariables false
set_option linter.unusedSimpArgs false
namespace Go.Proofs.Qxb6500880aGreat
open Go.RowKit

set_option maxRecDepth 20000 in
set_option maxHeartbeats 8000000 in
theorem nan_any {w : World} (x : Int) : Calls Tryz.prog 100 #[.int .i64 x] w fun e w' => e = .returned (.bool false) ∧ w' = w := by
  go_enter Tryz.func100, Tryz.ntmps100
  go_wp2
  go_ret
  exact ⟨by simp, rfl⟩
set_option maxRecDepth 20000 in
set_option maxHeartbeats 8000000 in
theorem cmp_any {w : World} (x y : Int) : Calls Tryz.prog 73 #[.int .i64 x, .int .i64 y] w fun e w' => (∃ r, e = .returned (.int .i64 r)) ∧ w' = w := by
  have h1 := nan_any (w := w) x
  have h2 := nan_any (w := w) y
  go_enter Tryz.func73, Tryz.ntmps73
  go_wp2_with fail
  refine h1.mono ?_
  rintro e w1 ⟨rfl, ew⟩
  replace ew := ew.symm
  subst ew
  go_wp2_with fail
  refine h2.mono ?_
  rintro e w1 ⟨rfl, ew⟩
  replace ew := ew.symm
  subst ew
  clear h1 h2
  by_cases hl : x < y
  · go_wp2
    go_ret
    exact ⟨⟨_, rfl⟩, rfl⟩
  · by_cases hg : x > y
    · have hg' : y < x := hg
      go_wp2
      go_ret
      exact ⟨⟨_, rfl⟩, rfl⟩
    · have hg' : ¬ y < x := hg
      go_wp2
      go_ret
      exact ⟨⟨_, rfl⟩, rfl⟩
set_option maxRecDepth 20000 in
set_option maxHeartbeats 8000000 in
theorem valueS_any {w : World} {SB mi k i : Nat} {vals : Value} (H : SymsAt w SB mi vals k) (hi : i < k) (hk : k ≤ 1000) :
    Calls Tryz.prog 55 #[.pointer (some ⟨SB, 0, none⟩), .int .u32 (i : Int)] w fun e w' => e = .returned (.agg #[.int .u8 1, .int .i64 0, .int .i64 (i : Int), .string ByteArray.empty]) ∧ Below w.heap.size w w' := by
  obtain ⟨g, cc, rfl, hc, _, hgl, hcl, _⟩ := own_full H.own (by omega)
  have c2 := H.c2
  obtain ⟨v0, v1, v2, v3⟩ := valL_get k i hi
  have d0 := (hcl (i * 4) (by omega)).trans v0
  have d1 := (hcl (i * 4 + 1) (by omega)).trans v1
  have d2 := (hcl (i * 4 + 2) (by omega)).trans v2
  have d3 := (hcl (i * 4 + 3) (by omega)).trans v3
  have bA := one_alloc w (.cells #[.int .u8 0, .int .i64 0, .int .i64 0, .string { data := #[] }] 26)
  have e2 := cell_later bA c2
  have e0 := cell_later bA d0
  have e1 := cell_later bA d1
  have e3 := cell_later bA d2
  have e4 := cell_later bA d3
  have i0 : (0 : Int) ≤ i := by omega
  have i1 : (i : Int) < (k : Int) := by omega
  have HB := hideIt bA
  clear bA c2 d0 d1 d2 d3 v0 v1 v2 v3 H hcl
  go_enter Tryz.func55, Tryz.ntmps55
  go_wp2
  refine bodyPost_ret (v := .agg #[.int .u8 1, .int .i64 0, .int .i64 (i : Int), .string ByteArray.empty]) ?_ rfl ?_
  · rw [results_one_cell rfl]
    go_simp
  · exact ⟨rfl, one_alloc _ _⟩
set_option maxRecDepth 20000 in
set_option maxHeartbeats 8000000 in
theorem compareS_any {w : World} {SB mi k x y : Nat} {vals : Value} (H : SymsAt w SB mi vals k) (hx : x < k) (hy : y < k) (hk : k ≤ 1000) :
    Calls Tryz.prog 54 #[.pointer (some ⟨SB, 0, none⟩), .int .u32 (x : Int), .int .u32 (y : Int)] w fun e w' => (∃ r, e = .returned (.int .i64 r)) ∧ Below w.heap.size w w' := by
  by_cases hxy : x = y
  · subst hxy
    clear H
    go_enter Tryz.func54, Tryz.ntmps54
    go_wp2
    go_ret
    exact ⟨⟨_, rfl⟩, Below.refl _ _⟩
  · have hxy' : ¬ ((x : Int) = (y : Int)) := by omega
    obtain ⟨g, cc, rfl, hc, _, hgl, hcl, _⟩ := own_full H.own (by omega)
    have c2 := H.c2
    obtain ⟨v0, v1, v2, v3⟩ := valL_get k x hx
    obtain ⟨u0, u1, u2, u3⟩ := valL_get k y hy
    have d0 := (hcl (x * 4) (by omega)).trans v0
    have d1 := (hcl (x * 4 + 1) (by omega)).trans v1
    have d2 := (hcl (x * 4 + 2) (by omega)).trans v2
    have d3 := (hcl (x * 4 + 3) (by omega)).trans v3
    have f0 := (hcl (y * 4) (by omega)).trans u0
    have f1 := (hcl (y * 4 + 1) (by omega)).trans u1
    have f2 := (hcl (y * 4 + 2) (by omega)).trans u2
    have f3 := (hcl (y * 4 + 3) (by omega)).trans u3
    have i0 : (0 : Int) ≤ x := by omega
    have i1 : (x : Int) < (k : Int) := by omega
    have j0 : (0 : Int) ≤ y := by omega
    have j1 : (y : Int) < (k : Int) := by omega
    have hSB := H.lt.1
    have bA := one_alloc w (.cells #[.int .u8 0, .int .i64 0, .int .i64 0, .string ByteArray.empty] 26)
    have bB := then_ bA (one_alloc (w.alloc (.cells #[.int .u8 0, .int .i64 0, .int .i64 0, .string ByteArray.empty] 26)) (.cells #[.int .u8 0, .int .i64 0, .int .i64 0, .string ByteArray.empty] 26))
    have pc2 := cell_later bA c2
    have qc2 := cell_later bB c2
    have pd0 := cell_later bA d0
    have qd0 := cell_later bB d0
    have pd1 := cell_later bA d1
    have qd1 := cell_later bB d1
    have pd2 := cell_later bA d2
    have qd2 := cell_later bB d2
    have pd3 := cell_later bA d3
    have qd3 := cell_later bB d3
    have pf0 := cell_later bA f0
    have qf0 := cell_later bB f0
    have pf1 := cell_later bA f1
    have qf1 := cell_later bB f1
    have pf2 := cell_later bA f2
    have qf2 := cell_later bB f2
    have pf3 := cell_later bA f3
    have qf3 := cell_later bB f3
    clear v0 v1 v2 v3 u0 u1 u2 u3 H hcl hxy bA bB
    go_enter Tryz.func54, Tryz.ntmps54
    go_upto_region 3 with fail
    go_region
    all_goals (go_wp2_with fail; refine (cmp_any _ _).mono ?_; rintro e w1 ⟨⟨r, rfl⟩, ew⟩; replace ew := ew.symm; subst ew; go_wp2; go_ret; exact ⟨⟨_, rfl⟩, below_dr (then_ (one_alloc _ _) (one_alloc _ _))⟩)
end Go.Proofs.Qxb6500880aGreat
