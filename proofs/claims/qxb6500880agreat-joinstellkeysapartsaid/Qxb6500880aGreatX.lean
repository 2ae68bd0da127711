import Derived.Deep.CutBlock
import Derived.OwnWalk
import Derived.Maps.AppendAt
import Derived.Maps.OwnSet
import Derived.Maps.OwnOps
import Derived.Laws.ResultCell
import Derived.Test.Qxb6500880aGreatW
set_option linter.unusedVariables false
set_option linter.unusedSimpArgs false
namespace Go.Proofs.Qxb6500880aGreat
open Go.RowKit

set_option maxRecDepth 20000 in
set_option maxHeartbeats 8000000 in
theorem ruleFold_any {w : World} {RB : Nat} {u : RuS} {ev : Value} (U : RuAt w RB u) (hN : RuN u) (hev : ∃ E, ev = .pointer (some ⟨E, 0, none⟩)) :
    Calls Tryz.prog 14 #[ev, .pointer (some ⟨RB, 0, none⟩)] w fun e w' => e = .returned (.bool true) ∧ Below w.heap.size w w' := by
  obtain ⟨i0_, hi_, hz0, hz1, hz2⟩ := info_parts info136
  obtain ⟨j0_, hj_, hy0, hy1, hy2⟩ := info_parts info4
  obtain ⟨E, rfl⟩ := hev
  have hmf : ∀ fn first cap w, (Instr.makeFunc fn first cap).run Tryz.prog w = .ok (.func fn first cap) w := fun _ _ _ _ => rfl
  have hst : ∀ (w' : World) (a : Addr) (f : Fn) (x y : Array Value) (m : Mode), (store a (.func f x y) m).run Tryz.prog w' = stored Tryz.prog w' a (.func f x y) m := fun _ _ _ _ _ _ => run_store _ _ _ _ _ rfl
  have hsl : ∀ w', (Instr.slice 104 (.slice none 0 0) none (some (.int .i64 0)) none).run Tryz.prog w' = .ok (.slice none 0 0) w' := fun w' => by kernel_rfl
  obtain ⟨⟨hv, J, l, ⟨a0, a1, a2, a3, a4, a5, a6, a7⟩, HJ, HO, HOH⟩, fz⟩ := U
  have hr := hN.f
  have hm := hN.m
  have hR := hN.R
  have hR0 := hN.R0
  obtain ⟨hp, hc, ehv, _⟩ := (show OpsAt w hv u.nh u.Fh from HOH)
  subst ehv
  have hHN := hideIt hN
  clear hN
  obtain ⟨m, HMm⟩ : ∃ m, Hid (u.m = m) := ⟨_, hideIt rfl⟩
  obtain ⟨R, HRR⟩ : ∃ R, Hid (u.R = R) := ⟨_, hideIt rfl⟩
  obtain ⟨nh, HNH⟩ : ∃ nh, Hid (u.nh = nh) := ⟨_, hideIt rfl⟩
  rw [HMm.out] at HJ HO hr hm
  rw [HRR.out] at a7 hr hR hR0
  rw [HNH.out] at a2 HOH
  have hl : RB < w.heap.size := World.block_lt_of_cell? _ _ a0
  obtain ⟨pj, cj, ej, hcj, HJ'⟩ := HJ
  have HJ : JnAt w J u.rb l m := ⟨pj, cj, ej, hcj, HJ'⟩
  clear HJ'
  subst ej
  have HQ := hideIt (And.intro HJ (And.intro HO (And.intro hr (And.intro fz HOH))))
  have HA := hideIt (And.intro a2 (And.intro a4 a5))
  clear HJ HO hr a0 a1 a3 a6 fz a2 a4 a5 HOH
  go_enter Tryz.func14, Tryz.ntmps14
  go_wp2_with (first | (at_make; refine wpList_make_full _ rfl _ _ 100 rfl w.heap.size 136 i0_ _ 2 Tryz.underlying100 hi_ hz0 hz1 .i64 .i64 (R : Int) (R : Int) R rfl rfl rfl rfl (by rw [hz2]; omega) (by unfold maxLen; omega) (Nat.le_refl _) ?_) | go_in)
  intro w3 hown3 hgrow3
  have hb3 : Below w.heap.size w w3 := ⟨hgrow3.os, hgrow3.tape, hgrow3.output, hgrow3.size, fun k hk => hgrow3.block k hk (by simp)⟩
  have R3 : RowO w3 w.heap.size R 0 (fun j => j) := by
    refine ⟨fun j hj => ?_, fun o => hown3.frozenAt o, fun j hj => by omega⟩
    have e := hown3.cellAt j hj
    have hl := hown3.1
    exact ⟨_, e.trans (List.getElem?_eq_getElem (by omega))⟩
  have hg3 : w.heap.size < w3.heap.size := (hown3.lt w.heap.size rfl).2
  have HQ3 := hideIt (And.intro R3 (And.intro hb3 hg3))
  clear hown3 hgrow3 R3 hb3 hg3 a7
  go_wp2_with fail
  have bS := one_alloc w3 (.cells #[.slice (some ⟨w.heap.size, 0, none⟩) R R] 100)
  have hsS : (w3.alloc (.cells #[.slice (some ⟨w.heap.size, 0, none⟩) R R] 100)).heap.size = w3.heap.size + 1 := by simp
  have s0 : (w3.alloc (.cells #[.slice (some ⟨w.heap.size, 0, none⟩) R R] 100)).cell? ⟨w3.heap.size, 0, none⟩ = some (.slice (some ⟨w.heap.size, 0, none⟩) R R) := by simp
  have HS := hideIt (And.intro bS (And.intro hsS s0))
  clear bS hsS s0
  generalize w3.alloc (.cells #[.slice (some ⟨w.heap.size, 0, none⟩) R R] 100) = w4 at *
  generalize hsb : w3.heap.size = sb at *
  generalize hg : w.heap.size = g at *
  go_loopg [28] R (fun gg v wr => ∃ i : Nat, i + gg = R ∧ v = .int .i64 (i : Int) ∧ RowO wr g R i (fun j => j) ∧ wr.cell? ⟨sb, 0, none⟩ = some (.slice (some ⟨g, 0, none⟩) R R) ∧ Below g w wr ∧ sb < wr.heap.size)
  case atStart =>
    obtain ⟨R3, hb3, hg3⟩ := HQ3.out
    obtain ⟨bS, hsS, s0⟩ := HS.out
    exact ⟨0, by omega, rfl, R3.blk (bS.block g (by omega)), s0, hb3.trans (bS.mono (by omega)), by omega⟩
  case round =>
    obtain ⟨R3, hb3, hg3⟩ := HQ3.out
    clear HQ3 HS R3 hb3
    obtain ⟨i, hi, rfl, RO, s0, hb, hsl4⟩ := hrel
    by_cases hin : i < R
    · have i0 : (0 : Int) ≤ i := by omega
      have i1 : (i : Int) < (R : Int) := by omega
      obtain ⟨u0, e0⟩ := RO.ex (i * 2) (by omega)
      obtain ⟨u1, e1⟩ := RO.ex (i * 2 + 1) (by omega)
      have fz := RO.fz
      have HB := hideIt (And.intro RO hb)
      clear RO hb
      go_wp2
      go_roundg (R - (i + 1))
      case measure => omega
      case rel =>
        obtain ⟨RO, hb⟩ := HB.out
        refine ⟨i + 1, by omega, by go_num, RO.put hin rfl, ?_, below_cell (below_cell hb (Nat.le_refl _) _) (Nat.le_refl _) _, by simpa using hsl4⟩
        rw [World.cell?_setCell_other _ _ _ _ (by simp <;> omega), World.cell?_setCell_other _ _ _ _ (by simp <;> omega)]
        exact s0
    · have e : R = i := by omega
      subst e
      obtain ⟨w5, rfl⟩ : ∃ x, x = wr := ⟨_, rfl⟩
      have SA : StAt w5 sb g R := ⟨s0, RO.pre⟩
      have HB := hideIt (And.intro SA hb)
      clear SA RO hb s0
      obtain ⟨a2, a4, a5⟩ := HA.out
      have hbw := HB.out.2
      have hb' : Below w.heap.size w w5 := hg ▸ hbw
      have b2 := cell_later hb' a2
      have b4 := cell_later hb' a4
      have b5 := cell_later hb' a5
      have bF := one_alloc w5 (.cells #[.func (.func 28) #[] #[.pointer (some ⟨sb, 0, none⟩)]] 137)
      have f0 : (w5.alloc (.cells #[.func (.func 28) #[] #[.pointer (some ⟨sb, 0, none⟩)]] 137)).cell? ⟨w5.heap.size, 0, none⟩ = some (.func (.func 28) #[] #[.pointer (some ⟨sb, 0, none⟩)]) := by simp
      have c2 := cell_later bF b2
      have c4 := cell_later bF b4
      have c5 := cell_later bF b5
      have HF := hideIt (And.intro bF (And.intro f0 (And.intro c2 c4)))
      clear a2 a4 a5 b2 b4 b5 bF f0 c2 c4 hbw hb' hg3
      go_wp2_with (first | (at_make; refine wpList_make_full _ rfl _ _ 138 rfl w5.heap.size 4 j0_ _ 1 Tryz.underlying138 hj_ hy0 hy1 .i64 .i64 0 0 0 rfl rfl rfl rfl (by rw [hy2]; omega) (by unfold maxLen; omega) (by simp) ?_) | go_in)
      intro w7 hown7 hgrow7
      have hb7 : Below (w5.alloc (.cells #[.func (.func 28) #[] #[.pointer (some ⟨sb, 0, none⟩)]] 137)).heap.size (w5.alloc (.cells #[.func (.func 28) #[] #[.pointer (some ⟨sb, 0, none⟩)]] 137)) w7 := ⟨hgrow7.os, hgrow7.tape, hgrow7.output, hgrow7.size, fun k hk => hgrow7.block k hk (by simp)⟩
      obtain ⟨bF, f0, c2, c4⟩ := HF.out
      have f7 := cell_later hb7 f0
      have d2 := cell_later hb7 c2
      have d4 := cell_later hb7 c4
      have d5 := cell_later hb7 c5
      have S7 := (HB.out.1.below bF).below hb7
      have bw7 : Below w.heap.size w w7 := then_ (then_ (hg ▸ HB.out.2) bF) hb7
      have hrw := rewrite_any (n := nh) (v := .slice hp nh hc) (f := u.Fh) S7 f7 (HQ.out.2.2.2.2.below bw7) (fun j hj => by rw [← HRR.out]; exact hHN.out.fh j (by rw [HNH.out]; exact hj)) (by omega) (by rw [← HNH.out]; have := hHN.out.h1; omega)
      have H7 := hideIt (And.intro S7 (And.intro f7 (And.intro d4 (And.intro d5 bw7))))
      clear hown7 hgrow7 hb7 bF f0 c2 c4 c5 HF S7 f7 bw7
      go_wp2_with fail
      go_loopg [49] 0 (fun gg v wr => v = .int .i64 0 ∧ wr = w7)
      case atStart => exact ⟨rfl, rfl⟩
      case round =>
        obtain ⟨rfl, rfl⟩ := hrel
        go_wp2_with fail
        refine hrw.mono ?_
        rintro e w8 ⟨rfl, hb8⟩
        obtain ⟨S7, f7, d4', d5', bw7⟩ := H7.out
        have e4 := cell_later hb8 d4'
        have HB8 := hideIt hb8
        clear hrw hb8 d2 d4 d5 S7 f7 d4' d5' bw7
        go_wp2_with fail
        go_loopg [121] m (fun gg v wr => ∃ k : Nat, k + gg = m ∧ v = .int .i64 (k : Int) ∧ Below w8.heap.size w8 wr)
        case atStart => exact ⟨0, by omega, rfl, Below.refl _ _⟩
        case round =>
          clear e4
          obtain ⟨k, hk, rfl, bk⟩ := hrel
          obtain ⟨S7, f7, d4, d5, bw7⟩ := H7.out
          by_cases hkm : k < m
          · have i0 : (0 : Int) ≤ k := by omega
            have i1 : (k : Int) < (m : Int) := by omega
            obtain ⟨gj, rfl, c0, c1, c2⟩ : ∃ gj, pj = some ⟨gj, 0, none⟩ ∧ w.cell? ⟨gj, k * 3, none⟩ = some (.pointer (some ⟨u.rb k, 0, none⟩)) ∧ w.cell? ⟨gj, k * 3 + 1, none⟩ = some (l k) ∧ w.cell? ⟨gj, k * 3 + 2, none⟩ = some (.int .i64 (k : Int)) := by
              obtain ⟨p, c, e, _, h⟩ := HQ.out.1
              simp only [Value.slice.injEq] at e
              obtain ⟨rfl, _, rfl⟩ := e
              rcases h with h | ⟨gj, e, h⟩
              · omega
              · exact ⟨gj, e, h k hkm⟩
            have HOk := HQ.out.2.1 k hkm
            obtain ⟨pa, ca, ea, hca, HO'⟩ := HOk
            have HOk : OpsAt w (l k) (u.nn k) (u.F k) := ⟨pa, ca, ea, hca, HO'⟩
            clear HO'
            rw [ea] at c1 HOk
            have b78 := then_ HB8.out bk
            have bwr : Below w.heap.size w wr := then_ bw7 b78
            have y0 := cell_later bwr c0
            have y1 := cell_later bwr c1
            have y2 := cell_later bwr c2
            have bA := one_alloc wr (.cells #[.pointer (some ⟨u.rb k, 0, none⟩), .slice pa (u.nn k) ca, .int .i64 (k : Int)] 102)
            have hrw := rewrite_any ((S7.below b78).below bA) (cell_later bA (cell_later b78 f7)) ((HOk.below bwr).below bA) (fun j hj => HQ.out.2.2.1 k j hkm hj) (by omega) (by have := hHN.out.n1 k (by rw [HMm.out]; exact hkm); omega)
            have HK := hideIt (And.intro bk bA)
            clear S7 f7 d4 d5 bw7 c0 c1 c2 HOk b78 bwr bA bk
            go_wp2_with fail
            refine hrw.mono ?_
            rintro e w9 ⟨rfl, hb9⟩
            have HB9 := hideIt hb9
            clear hb9 hrw y0 y1 y2
            go_wp2
            go_roundg (m - (k + 1))
            case measure => omega
            case rel => exact ⟨k + 1, by omega, by go_num, then_ (then_ HK.out.1 HK.out.2) HB9.out⟩
          · have e : k = m := by omega
            subst e
            have b78 := then_ HB8.out bk
            have x5 := cell_later b78 d5
            have xf : ∀ o, wr.frozen? ⟨RB, o, none⟩ = false := fun o => (World.frozen?_of_block (a := ⟨RB, o, none⟩) ((then_ bw7 b78).block RB (by omega))).trans (HQ.out.2.2.2.1 o)
            have xs := setCell_self x5
            have HW := hideIt (And.intro xs (then_ bw7 b78))
            clear S7 f7 d4 d5 bw7 b78 bk xs
            go_wp2_with fail
            go_loopg [140, 16] 0 (fun gg v u wx => v = .int .i64 0 ∧ u = .slice none 0 0 ∧ wx = wr)
            case atStart => exact ⟨rfl, rfl, rfl⟩
            case round =>
              obtain ⟨rfl, rfl, rfl⟩ := hrel
              go_wp2
              rw [HW.out.1]
              go_ret
              exact ⟨rfl, HW.out.2⟩
end Go.Proofs.Qxb6500880aGreat
