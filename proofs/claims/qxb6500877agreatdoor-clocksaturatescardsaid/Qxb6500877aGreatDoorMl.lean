import Derived.Laws.Externs
import Derived.Test.Qxb6500877aGreatDoorMq
set_option linter.unusedVariables false
set_option linter.unusedSimpArgs false
namespace Go.Proofs.Qxb6500877aGreatDoor
open Go.RowKit

theorem add64_run (x y : Int) (hx : 0 ≤ x) (hy : 0 ≤ y) (w : World) : (callFunc 100 #[.int .u64 x, .int .u64 y, .int .u64 0]).run Tryz.prog w = .ok (.value (.tuple #[.int .u64 ((x + y + 0) % 18446744073709551616), .int .u64 ((x + y + 0) / 18446744073709551616)])) w := by
  rw [run_callFunc_extern Tryz.func100 (by kernel_rfl) (by kernel_rfl) (by kernel_rfl) (e := add64Entry) (by kernel_rfl), run_add64 x y 0 hx hy (by omega) (by omega)]
  rfl
set_option maxHeartbeats 1000000 in
theorem later_any {t n : Nat} (ht : t < 18446744073709551616) (hn : n < 18446744073709551616) (w : World) : Calls Tryz.prog 39 #[.int .u64 (t : Int), .int .u64 (n : Int)] w fun e w' => e = .returned (.int .u64 ((afterF t n : Nat) : Int)) ∧ w' = w := by
  have hrun := add64_run t n (by omega) (by omega) w
  by_cases hc : 18446744073709551615 - t < n
  · have e1 : ((t : Int) + n + 0) / 18446744073709551616 = 1 := by omega
    rw [e1] at hrun
    have hv : ((afterF t n : Nat) : Int) = 18446744073709551615 := by rw [afterF, if_pos hc]; rfl
    rw [hv]
    clear e1 hv hc
    generalize ((t : Int) + n + 0) % 18446744073709551616 = q at hrun
    go_enter Tryz.func39, Tryz.ntmps39
    go_wp2
    go_ret
    exact ⟨rfl, rfl⟩
  · have e1 : ((t : Int) + n + 0) / 18446744073709551616 = 0 := by omega
    have e2 : ((t : Int) + n + 0) % 18446744073709551616 = ((afterF t n : Nat) : Int) := by rw [afterF, if_neg hc]; omega
    rw [e1, e2] at hrun
    clear e1 e2 hc
    generalize ((afterF t n : Nat) : Int) = q at hrun ⊢
    go_enter Tryz.func39, Tryz.ntmps39
    go_wp2
    go_ret
    exact ⟨rfl, rfl⟩
set_option maxHeartbeats 1000000 in
theorem ticksOf_any (o : OpS) (w : World) : Calls Tryz.prog 38 #[opV o] w fun e w' => e = .returned (.int .u64 ((tickOf o : Nat) : Int)) ∧ Below w.heap.size w w' := by
  unfold opV
  by_cases h2 : o.kd = 2
  · have hv : tickOf o = 1 := by rw [tickOf, if_pos h2]
    rw [hv, h2]
    clear hv h2
    go_enter Tryz.func38, Tryz.ntmps38
    go_wp2
    go_ret
    exact ⟨rfl, one_alloc _ _⟩
  · have e2 : (((o.kd : Nat) : Int) == 2) = false := by simp; omega
    by_cases h3 : o.kd = 3
    · have hv : tickOf o = o.x := by rw [tickOf, if_neg h2, if_pos h3]
      rw [hv, h3]
      clear hv h2 h3 e2
      go_enter Tryz.func38, Tryz.ntmps38
      go_wp2
      go_ret
      exact ⟨rfl, one_alloc _ _⟩
    · have e3 : (((o.kd : Nat) : Int) == 3) = false := by simp; omega
      have hv : tickOf o = 0 := by rw [tickOf, if_neg h2, if_neg h3]
      rw [hv]
      clear hv h2 h3
      go_enter Tryz.func38, Tryz.ntmps38
      go_wp2
      go_ret
      exact ⟨rfl, one_alloc _ _⟩
theorem tickOf_lt {o : OpS} (ho : o.ok) : tickOf o < 18446744073709551616 := by
  unfold tickOf
  have := ho.x
  split
  · omega
  · split <;> omega
set_option maxHeartbeats 1000000 in
theorem small_any {p : Option Addr} {n c : Nat} (w : World) : Calls Tryz.prog 16 #[.slice p n c] w fun e w' => e = .returned (.bool (decide (n ≤ 65536))) ∧ w' = w := by
  by_cases h : n ≤ 65536
  · have h1 : ¬ ((65536 : Int) < (n : Int)) := by omega
    rw [decide_eq_true h]
    clear h
    go_enter Tryz.func16, Tryz.ntmps16
    go_wp2
    go_ret
    exact ⟨rfl, rfl⟩
  · have h1 : (65536 : Int) < (n : Int) := by omega
    rw [decide_eq_false h]
    clear h
    go_enter Tryz.func16, Tryz.ntmps16
    go_wp2
    go_ret
    exact ⟨rfl, rfl⟩
/-- A step of the script, where the caller keeps it. -/
structure OpCs (w : World) (b q : Nat) (o : OpS) : Prop where
  c0 : w.cell? ⟨b, q, none⟩ = some (.int .u8 o.kd)
  c1 : w.cell? ⟨b, q + 1, none⟩ = some (.int .i64 o.a)
  c2 : w.cell? ⟨b, q + 2, none⟩ = some (.int .i64 o.b)
  c3 : w.cell? ⟨b, q + 3, none⟩ = some (.int .i64 o.c)
  c4 : w.cell? ⟨b, q + 4, none⟩ = some (.int .u64 o.x)
  c5 : w.cell? ⟨b, q + 5, none⟩ = some (.int .u64 o.y)
def OpsIn (w : World) (p : Option Addr) (L : List OpS) : Prop := L = [] ∨ ∃ b off, p = some ⟨b, off, none⟩ ∧ ∀ j (h : j < L.length), OpCs w b (off + j * 6) L[j]
theorem below_done {n : Nat} {w w1 w2 : World} {B mb t k : Nat} (h : Below n w w1) (d : Done w1 w2 B mb t k) (hn : n ≤ w1.heap.size) (hB : n ≤ B) (hm : n ≤ mb) : Below n w w2 :=
  ⟨d.f.os.trans h.os, d.f.tape.trans h.tape, d.f.output.trans h.output, Nat.le_trans h.size d.f.size, fun k hk => (d.f.block k (by omega) (by omega) (by omega)).trans (h.block k hk)⟩
theorem below_to {n : Nat} {w w1 w2 : World} (h : Below n w w1) (d : Below w1.heap.size w1 w2) (hn : n ≤ w1.heap.size) : Below n w w2 := h.trans (d.mono hn)

set_option maxRecDepth 20000 in
set_option maxHeartbeats 8000000 in
theorem law8_of (step : ∀ {w : World} {B mb t k : Nat} {o : OpS}, Mach w B mb t k → k < 800000 → o.ok → Calls Tryz.prog 19 #[.pointer (some ⟨B, 0, none⟩), opV o] w fun e w' => Any e ∧ Done w w' B mb (afterF t (tickOf o)) (k + 4))
    {p : Option Addr} {n c : Nat} {L : List OpS} {w : World} (h : OpsIn w p L) (hn : L.length = n) (hok : ∀ o ∈ L, o.ok) (hnc : n ≤ c) (V : Vac w) (TB : TabAt w) (h2 : 2 < w.heap.size) :
    Calls Tryz.prog 8 #[.slice p n c] w fun e w' => e = .returned (.bool true) ∧ Below w.heap.size w w' := by
  have hsm := small_any (p := p) (n := n) (c := c) w
  by_cases hb : n ≤ 65536
  · rw [decide_eq_true hb] at hsm
    go_enter Tryz.func8, Tryz.ntmps8
    go_wp2_with fail
    refine hsm.mono ?_
    rintro e w ⟨rfl, rfl⟩
    go_wp2_with fail
    refine (new_any V TB h2).mono ?_
    rintro e w1 ⟨B, mb, rfl, M1, hwB, hwm, hb1⟩
    go_wp2_with fail
    go_loopg [14] n (fun g v wr => ∃ i t : Nat, i + g = n ∧ v = .int .i64 (i : Int) ∧ Mach wr B mb t (4 * i) ∧ Below w.heap.size w wr)
    case atStart => exact ⟨0, 0, by omega, rfl, M1, hb1⟩
    case round =>
      clear M1 hb1
      obtain ⟨i, t, hig, rfl, M, hbr⟩ := hrel
      by_cases hi : i < n
      · have i0 : (0 : Int) ≤ i := by omega
        have i1 : (i : Int) < (n : Int) := by omega
        have hi' : i < L.length := by omega
        obtain ⟨b, off, rfl, hcs⟩ : ∃ b off, p = some ⟨b, off, none⟩ ∧ ∀ j (h : j < L.length), OpCs w b (off + j * 6) L[j] := by
          rcases h with h | h
          · rw [h] at hi'; simp at hi'
          · exact h
        have hC := hcs i hi'
        have ho := hok _ (List.getElem_mem hi')
        generalize L[i] = o at hC ho
        obtain ⟨c0, c1, c2, c3, c4, c5⟩ := hC
        have d0 := cell_later hbr c0
        have d1 := cell_later hbr c1
        have d2 := cell_later hbr c2
        have d3 := cell_later hbr c3
        have d4 := cell_later hbr c4
        have d5 := cell_later hbr c5
        have hsr := hbr.size
        have hmlt := M.mlt
        have hBlt := M.lt
        clear c0 c1 c2 c3 c4 c5 hcs
        go_upto_region 6 with fail
        go_cut [5] (fun a5 wc => ∃ p5 : Nat, a5 = .pointer (some ⟨p5, 0, none⟩) ∧ OpAt wc p5 o ∧ Mach wc B mb t (4 * i) ∧ Below w.heap.size w wc ∧ p5 ≠ B ∧ p5 ≠ mb ∧ w.heap.size ≤ wc.heap.size)
        case first =>
          go_wp2
          go_meet
          case rel =>
            have hb2 := below_to hbr (one_alloc wr (.cells #[.int .u8 o.kd, .int .i64 o.a, .int .i64 o.b, .int .i64 o.c, .int .u64 o.x, .int .u64 o.y] 32)) hsr
            exact ⟨wr.heap.size, rfl, op_new wr o 32, M.below (one_alloc _ _), hb2, by omega, by omega, hb2.size⟩
        case rest =>
          clear M hbr d0 d1 d2 d3 d4 d5 hsr hmlt hBlt
          obtain ⟨p5, rfl, OP, M, hbr, hp1, hp2, hsr⟩ := hcut
          have hp3 := OP.lt
          obtain ⟨g0, g1, g2, g3, g4, g5⟩ := OP
          have hold := now_any M.clk
          have htl := M.tlt
          have hst := step M (by omega) ho
          have hlat := fun w => later_any M.tlt (tickOf_lt ho) w
          have hle := (afterF_lt t (tickOf o) M.tlt).2
          generalize afterF t (tickOf o) = t' at hst hlat hle
          unfold opV at hst
          go_wp2_with fail
          refine hold.mono ?_
          rintro e wc ⟨rfl, rfl⟩
          go_wp2_with fail
          refine hst.mono ?_
          rintro e w2 ⟨⟨rv, rfl⟩, D2⟩
          have OP2 : OpAt w2 p5 o := (OpAt.mk g0 g1 g2 g3 g4 g5).blk (D2.f.block p5 hp3 hp1 hp2)
          have hb2 := below_done hbr D2 hsr hwB hwm
          have M2 := D2.m
          have hs2 := hb2.size
          clear D2 g0 g1 g2 g3 g4 g5 hst M hbr hold
          obtain ⟨g0, g1, g2, g3, g4, g5⟩ := OP2
          have hnow := now_any M2.clk
          go_wp2_with fail
          refine hnow.mono ?_
          rintro e w2 ⟨rfl, rfl⟩
          have htk := ticksOf_any o w2
          unfold opV at htk
          have hlt : decide (((t' : Nat) : Int) < (t : Int)) = false := by simp; omega
          go_wp2_with fail
          refine htk.mono ?_
          rintro e w3 ⟨rfl, hb3⟩
          have hb3' := below_to hb2 hb3 hs2
          have M3 := M2.below hb3
          have hs3 := hb3'.size
          go_wp2_with fail
          refine (hlat w3).mono ?_
          rintro e w3 ⟨rfl, rfl⟩
          have hsat := saturated_any M3.clk
          clear hb2 M2 hb3 htk hnow g0 g1 g2 g3 g4 g5
          by_cases hmx : t' = 18446744073709551615
          · rw [decide_eq_true hmx] at hsat
            subst hmx
            go_wp2_with fail
            refine hsat.mono ?_
            rintro e w3 ⟨rfl, rfl⟩
            go_wp2
            go_roundg (n - (i + 1))
            case measure => omega
            case rel => exact ⟨i + 1, _, by omega, by go_num, M3, hb3'⟩
          · rw [decide_eq_false hmx] at hsat
            have hmb : (((t' : Nat) : Int) == 18446744073709551615) = false := by simp; omega
            clear hmx
            go_wp2_with fail
            refine hsat.mono ?_
            rintro e w3 ⟨rfl, rfl⟩
            go_wp2
            go_roundg (n - (i + 1))
            case measure => omega
            case rel => exact ⟨i + 1, _, by omega, by go_num, M3, hb3'⟩
      · have e : i = n := by omega
        subst e
        go_wp2
        go_ret
        exact ⟨rfl, hbr⟩
  · rw [decide_eq_false hb] at hsm
    go_enter Tryz.func8, Tryz.ntmps8
    go_wp2_with fail
    refine hsm.mono ?_
    rintro e w ⟨rfl, rfl⟩
    go_wp2
    go_ret
    exact ⟨rfl, Below.refl _ _⟩

end Go.Proofs.Qxb6500877aGreatDoor
