import Derived.Deep.CutBlock
import Derived.OwnWalk
import Derived.Test.Qxb6500877aGreatDoorIe0
import Derived.Test.Qxb6500877aGreatDoorId
import Derived.Test.Qxb6500877aGreatDoorEc
set_option linter.unusedVariables false
set_option linter.unusedSimpArgs false
namespace Go.Proofs.Qxb6500877aGreatDoor
open Go.RowKit

theorem info43 : (Tryz.prog.info? 43).map (fun i => (i.zero, i.size, i.bytes)) = some (some (.agg #[.int .i64 0, .int .i64 0, .int .i64 0, .int .u64 0, .bool false, .int .i64 0, .int .i64 0, .int .u32 0, .int .u64 0, .int .u64 0, .int .u64 0, .int .u64 0, .int .u64 0, .int .u64 0, .slice none 0 0]), 15, 136) := by kernel_rfl
/-- A row of n results that nobody reads. -/
def RowN (w : World) (g n : Nat) : Prop := ∃ cur : Array Value, w.heap[g]? = some (.cells cur 43 (0, 0)) ∧ cur.size = n * 15
theorem RowN.blk {w w' : World} {g n : Nat} (h : RowN w g n) (e : w'.heap[g]? = w.heap[g]?) : RowN w' g n := by
  obtain ⟨cur, h1, h2⟩ := h
  exact ⟨cur, e.trans h1, h2⟩
theorem RowN.lt {w : World} {g n : Nat} (h : RowN w g n) : g < w.heap.size := by
  obtain ⟨cur, h1, _⟩ := h
  exact (Array.getElem?_eq_some_iff.1 h1).1
theorem RowN.cell {w : World} {g n o : Nat} (h : RowN w g n) (ho : o < n * 15) : ∃ v, w.cell? ⟨g, o, none⟩ = some v := by
  obtain ⟨cur, h1, h2⟩ := h
  exact ⟨cur[o]'(by omega), by simp [World.cell?, h1, h2, ho]⟩
theorem RowN.fz {w : World} {g n : Nat} (h : RowN w g n) (o : Nat) : w.frozen? ⟨g, o, none⟩ = false := by
  obtain ⟨cur, h1, h2⟩ := h
  simp [World.frozen?, h1]
theorem RowN.set {w : World} {g n o : Nat} {v : Value} (h : RowN w g n) : RowN (w.setCell ⟨g, o, none⟩ v) g n := by
  obtain ⟨cur, h1, h2⟩ := h
  have hg : g < w.heap.size := (Array.getElem?_eq_some_iff.1 h1).1
  refine ⟨cur.setIfInBounds o v, ?_, by simp [h2]⟩
  simp only [World.setCell, Array.getElem?_modify]
  simp [h1]
theorem far_set2 {w : World} {b i q : Nat} {v : Value} (h : q ≠ b) : (w.setCell ⟨b, i, none⟩ v).heap[q]? = w.heap[q]? := by
  simp only [World.setCell, Array.getElem?_modify]
  rw [if_neg (fun e => h e.symm)]
/-- Nothing but block g is written. -/
structure OnlyG (g : Nat) (w w' : World) : Prop where
  os : w'.os = w.os
  tape : w'.tape = w.tape
  output : w'.output = w.output
  size : w'.heap.size = w.heap.size
  far : ∀ q, q ≠ g → w'.heap[q]? = w.heap[q]?
theorem OnlyG.refl (g : Nat) (w : World) : OnlyG g w w := ⟨rfl, rfl, rfl, rfl, fun _ _ => rfl⟩
theorem OnlyG.set {g o : Nat} {w w' : World} {v : Value} (h : OnlyG g w w') : OnlyG g w (w'.setCell ⟨g, o, none⟩ v) :=
  ⟨h.os, h.tape, h.output, by rw [← h.size]; simp, fun q hq => (far_set2 hq).trans (h.far q hq)⟩
theorem OnlyG.grown {g : Nat} {w w' : World} (h : OnlyG g w w') : w.grownBy w' (some g) := ⟨h.os, h.tape, h.output, by rw [h.size]; exact Nat.le_refl _, fun k _ hk => h.far k (fun e => hk (by rw [e]))⟩
set_option maxRecDepth 20000 in
set_option maxHeartbeats 16000000 in
theorem run_any {w : World} {B mb t k g0 n c : Nat} {ν : Net} {τ : TSt} {σ : Sg} {L : List OpS} (M : Mach w B mb t k ν τ σ) (hn : L.length = n) (hn1 : n ≤ 1000) (hk : k < 700000) (hok : ∀ o ∈ L, o.ok) (hg0 : g0 < w.heap.size ∧ g0 ≠ B ∧ g0 ≠ mb) (hL : ∀ j (hj : j < L.length), OpCs w g0 (0 + j * 6) L[j]) (hnc : n ≤ c) :
    Calls Tryz.prog 51 #[.pointer (some ⟨B, 0, none⟩), .slice (some ⟨g0, 0, none⟩) n c] w fun e w' => ∃ (v : Value) (st : MS), e = .returned v ∧ Done w w' B mb st.t (k + 4 * n) st.ν st.τ st.σ ∧ RunR L ⟨t, ν, τ, σ⟩ st := by
  have HST : Hid (∀ {w : World} {B mb t k : Nat} {ν : Net} {τ : TSt} {σ : Sg}, Mach w B mb t k ν τ σ → k < 800000 → ∀ (o : OpS), o.ok → Calls Tryz.prog 19 #[.pointer (some ⟨B, 0, none⟩), opV o] w fun e w' => StepF o w w' B mb t k ν τ σ e) := hideIt (fun M hk o ho => step_f M hk o ho)
  obtain ⟨i0_, hi_, hzz, hz1, hz2⟩ := info_parts info43
  have hlB := M.lt
  have hlm := M.mlt
  have hrow : ∀ w3 : World, w3.ownsRow w.heap.size 43 15 (.slice (some ⟨w.heap.size, 0, none⟩) n n) n (madeCells (.agg #[.int .i64 0, .int .i64 0, .int .i64 0, .int .u64 0, .bool false, .int .i64 0, .int .i64 0, .int .u32 0, .int .u64 0, .int .u64 0, .int .u64 0, .int .u64 0, .int .u64 0, .int .u64 0, .slice none 0 0] : Value).cells (n * 15)).toList → RowN w3 w.heap.size n := fun w3 h => by
    rcases h.2 with ⟨e1, _⟩ | ⟨g, cap, cur, e1, _, h3, _, _, h5, _⟩
    · simp at e1
    · simp only [Value.slice.injEq, Option.some.injEq, Addr.mk.injEq] at e1
      obtain ⟨⟨rfl, _⟩, _, rfl⟩ := e1
      exact ⟨cur, h3, h5⟩
  have HRow := hideIt hrow
  have HG1 : Hid (∀ w3 : World, w.grownBy w3 none → Done w w3 B mb t k ν τ σ) := hideIt (fun w3 hg => (Done.refl M).grown hlB hlm hg (fun q hq => by simp at hq))
  have HL := hideIt hL
  have HOK := hideIt hok
  clear hrow hL hok
  go_enter Tryz.func51, Tryz.ntmps51
  go_upto_region 2 with (first | (at_make; refine wpList_make_full _ rfl _ _ 101 rfl w.heap.size 43 i0_ (.agg #[.int .i64 0, .int .i64 0, .int .i64 0, .int .u64 0, .bool false, .int .i64 0, .int .i64 0, .int .u32 0, .int .u64 0, .int .u64 0, .int .u64 0, .int .u64 0, .int .u64 0, .int .u64 0, .slice none 0 0]) 15 Tryz.underlying101 hi_ hzz hz1 .i64 .i64 (n : Int) (n : Int) n rfl rfl rfl rfl (by rw [hz2]; omega) (by unfold maxLen; omega) (Nat.le_refl _) ?_; intro w3 hown3 hgrow3; have hr3 := HRow.out w3 hown3; have D3 := HG1.out w3 hgrow3; clear hown3 hgrow3) | go_in)
  have hgx : ∃ g, g = w.heap.size := ⟨_, rfl⟩
  obtain ⟨g, hg⟩ := hgx
  rw [← hg] at hr3 ⊢
  have hgl : w.heap.size ≤ g := by omega
  clear hg
  go_wp2_with fail
  go_loopg [13] n (fun gg v wr => ∃ (i : Nat) (st : MS), i + gg = n ∧ v = .int .i64 (i : Int) ∧ Done w wr B mb st.t (k + 4 * i) st.ν st.τ st.σ ∧ RowN wr g n ∧ Hid (RunR (L.take i) ⟨t, ν, τ, σ⟩ st))
  case atStart => exact ⟨0, ⟨t, ν, τ, σ⟩, by omega, rfl, D3, hr3, hideIt rfl⟩
  case round =>
    clear D3 hr3
    obtain ⟨i, st, hig, rfl, D, R, HR⟩ := hrel
    by_cases hi : i < n
    · have i0 : (0 : Int) ≤ i := by omega
      have i1 : (i : Int) < (n : Int) := by omega
      have hi' : i < L.length := by omega
      have hC := HL.out i hi'
      have ho := HOK.out _ (List.getElem_mem hi')
      have ht : L.take (i + 1) = L.take i ++ [L[i]] := by rw [List.take_add_one, List.getElem?_eq_getElem hi']; rfl
      have HT := hideIt ht
      clear ht
      generalize L[i] = o at hC ho HT
      have hblk := D.f.block g0 hg0.1 hg0.2.1 hg0.2.2
      obtain ⟨c0, c1, c2, c3, c4, c5⟩ := hC
      have ck := fun q v (h : w.cell? ⟨g0, q, none⟩ = some v) => (World.cell?_of_block (a := ⟨g0, q, none⟩) hblk).trans h
      have d0 := ck _ _ c0
      have d1 := ck _ _ c1
      have d2 := ck _ _ c2
      have d3 := ck _ _ c3
      have d4 := ck _ _ c4
      have d5 := ck _ _ c5
      clear c0 c1 c2 c3 c4 c5 ck hblk
      simp only [Nat.zero_add] at d0 d1 d2 d3 d4 d5
      have hRl := R.lt
      go_upto_region 4 with fail
      go_cut [6, 7] (fun a6 a7 wd => a6 = .int .i64 (i : Int) ∧ ∃ p7 : Nat, a7 = .pointer (some ⟨p7, 0, none⟩) ∧ OpAt wd p7 o ∧ g < p7 ∧ Done w wd B mb st.t (k + 4 * i) st.ν st.τ st.σ ∧ RowN wd g n)
      case first =>
        go_wp2
        go_meet
        case rel =>
          have b1 := one_alloc wr (.cells #[.int .u8 o.kd, .int .i64 o.a, .int .i64 o.b, .int .i64 o.c, .int .u64 o.x, .int .u64 o.y] 32)
          exact ⟨rfl, wr.heap.size, rfl, op_new wr o 32, hRl, D.grown hlB hlm (World.grownBy_alloc wr _ none) (fun q hq => by simp at hq), R.blk (b1.block g hRl)⟩
      case rest =>
      clear d0 d1 d2 d3 d4 d5 D R hRl
      obtain ⟨rfl, p7, rfl, OP, hgp, D, R⟩ := hcut
      have hst := HST.out D.m (by omega) o ho
      unfold opV at hst
      have hRl := R.lt
      obtain ⟨g0', g1, g2, g3, g4, g5⟩ := OP
      go_wp2_with fail
      refine hst.mono ?_
      rintro e w2 ⟨zc, co, tk, tm, hm, mm, pp, nn, lf, t', ν', τ', σ', rfl, D2, hS, _⟩
      have R2 := R.blk (D2.f.block g hRl (by omega) (by omega))
      have HD := hideIt (And.intro (D.andThen D2) hS)
      have HC : Hid (∀ f, f < 15 → ∃ v, w2.cell? ⟨g, i * 15 + f, none⟩ = some v) := hideIt (fun f hf => R2.cell (by
        have : i * 15 + 15 ≤ n * 15 := by omega
        omega))
      have fz := R2.fz
      clear hst D D2 R hS g0' g1 g2 g3 g4 g5
      unfold resV
      obtain ⟨x0, q0⟩ := HC.out 0 (by omega)
      obtain ⟨x1, q1⟩ := HC.out 1 (by omega)
      obtain ⟨x2, q2⟩ := HC.out 2 (by omega)
      obtain ⟨x3, q3⟩ := HC.out 3 (by omega)
      obtain ⟨x4, q4⟩ := HC.out 4 (by omega)
      obtain ⟨x5, q5⟩ := HC.out 5 (by omega)
      obtain ⟨x6, q6⟩ := HC.out 6 (by omega)
      obtain ⟨x7, q7⟩ := HC.out 7 (by omega)
      obtain ⟨x8, q8⟩ := HC.out 8 (by omega)
      obtain ⟨x9, q9⟩ := HC.out 9 (by omega)
      obtain ⟨x10, q10⟩ := HC.out 10 (by omega)
      obtain ⟨x11, q11⟩ := HC.out 11 (by omega)
      obtain ⟨x12, q12⟩ := HC.out 12 (by omega)
      obtain ⟨x13, q13⟩ := HC.out 13 (by omega)
      obtain ⟨x14, q14⟩ := HC.out 14 (by omega)
      simp only [Nat.add_zero] at q0
      go_wp2
      go_roundg (n - (i + 1))
      case measure => omega
      case rel =>
        obtain ⟨D4, hS⟩ := HD.out
        refine ⟨i + 1, ⟨t', ν', τ', σ'⟩, by omega, by go_num, ?_, ?_, hideIt ?_⟩
        · refine D4.grown (row := some g) hlB hlm (OnlyG.grown ?_) (fun q hq => ?_)
          · exact (((((((((((((((OnlyG.refl g w2).set).set).set).set).set).set).set).set).set).set).set).set).set).set).set
          · have e : g = q := by simpa using hq
            omega
        · exact ((((((((((((((R2.set).set).set).set).set).set).set).set).set).set).set).set).set).set).set
        · rw [HT.out]
          exact RunR.snoc HR.out hS
    · have e : i = n := by omega
      subst e
      go_wp2
      go_ret
      refine ⟨_, st, rfl, D, ?_⟩
      have := HR.out
      rw [← hn, List.take_length] at this
      exact this
end Go.Proofs.Qxb6500877aGreatDoor
