import Derived.Deep.CutBlock
import Derived.OwnWalk
import Derived.Deep.RegionHeld3
import Derived.Test.Qxb6500877aGreatDoorIf
import Derived.Test.Qxb6500877aGreatDoorQn
import Derived.Test.Qxb6500877aGreatDoorCc
import Derived.Test.Qxb6500877aGreatDoorPMl
set_option linter.unusedVariables false
set_option linter.unusedSimpArgs false
namespace Go.Proofs.Qxb6500877aGreatDoor
open Go.RowKit

theorem fair_ok (l : List Nat) : ∀ o ∈ fairL l, o.ok := by
  intro o ho
  unfold fairL at ho
  rcases List.mem_append.1 ho with h | h
  · rcases List.mem_append.1 h with h | h
    · have hp : ∀ n, o ∈ pickL n → o.ok := fun n => by
        induction n with
        | zero => intro h; simp [pickL] at h
        | succ n ih =>
          intro h
          rw [pickL, List.mem_append, List.mem_singleton] at h
          rcases h with h | h
          · exact ih h
          · subst h; exact ⟨by show (0 : Nat) < 256; omega, by show (0 : Nat) < _; omega, by show (0 : Nat) < _; omega⟩
      exact hp 4 h
    · obtain ⟨x, _, rfl⟩ := List.mem_map.1 h
      exact ⟨by show (1 : Nat) < 256; omega, by show (0 : Nat) < _; omega, by show (0 : Nat) < _; omega⟩
  · rw [List.mem_singleton] at h
    subst h
    exact ⟨by show (2 : Nat) < 256; omega, by show (0 : Nat) < _; omega, by show (0 : Nat) < _; omega⟩
set_option maxRecDepth 20000 in
set_option maxHeartbeats 32000000 in
theorem law13 {p : Option Addr} {n c : Nat} {L : List OpS} {w : World} (h : OpsIn w p L) (hn : L.length = n) (hok : ∀ o ∈ L, o.ok) (hnc : n ≤ c) (V : Vac w) (TB : TabAt w) (T32 : Tab32 w) (h2 : 2 < w.heap.size) :
    Calls Tryz.prog 13 #[.slice p n c] w fun e w' => e = .returned (.bool true) ∧ Below w.heap.size w w' := by
  have HST : Hid (∀ {w : World} {B mb t k : Nat} {ν : Net} {τ : TSt} {σ : Sg}, Mach w B mb t k ν τ σ → k < 800000 → ∀ (o : OpS), o.ok → Calls Tryz.prog 19 #[.pointer (some ⟨B, 0, none⟩), opV o] w fun e w' => StepF o w w' B mb t k ν τ σ e) := hideIt (fun M hk o ho => step_f M hk o ho)
  have hsm := small_any (p := p) (n := n) (c := c) w
  by_cases hb : n ≤ 65536
  · rw [decide_eq_true hb] at hsm
    go_enter Tryz.func13, Tryz.ntmps13
    go_wp2_with fail
    refine hsm.mono ?_
    rintro e w ⟨rfl, rfl⟩
    go_wp2_with fail
    refine (new_any V TB h2).mono ?_
    rintro e w1 ⟨B, mb, σ0, rfl, M1, hwB, hwm, hb1⟩
    go_wp2_with fail
    go_loopg [19] n (fun gg v wr => ∃ (i t : Nat) (ν : Net) (τ : TSt) (σ : Sg), i + gg = n ∧ v = .int .i64 (i : Int) ∧ Mach wr B mb t (4 * i) ν τ σ ∧ Hid (Bsy ν) ∧ Below w.heap.size w wr)
    case atStart => exact ⟨0, 0, net0, τ0, σ0, by omega, rfl, M1, hideIt bsy_zero, hb1⟩
    case round =>
      clear M1 hb1
      obtain ⟨i, t, ν, τ, σ, hig, rfl, M, HBY, hbw⟩ := hrel
      by_cases hi : i < n
      · have i0 : (0 : Int) ≤ i := by omega
        have i1 : (i : Int) < (n : Int) := by omega
        have hi' : i < L.length := by omega
        obtain ⟨b, off, rfl, hcs⟩ : ∃ b off, p = some ⟨b, off, none⟩ ∧ ∀ j (h : j < L.length), OpCs w b (off + j * 6) L[j] := by
          rcases h with h | h
          · rw [h] at hi'; simp at hi'
          · exact h
        have hC := hcs i hi'
        have ho := hok _ (List.getElem_mem hi')
        generalize L[i] = o at hC ho
        obtain ⟨c0, c1, c2, c3, c4, c5⟩ := hC
        have d0 := cell_later hbw c0
        have d1 := cell_later hbw c1
        have d2 := cell_later hbw c2
        have d3 := cell_later hbw c3
        have d4 := cell_later hbw c4
        have d5 := cell_later hbw c5
        clear c0 c1 c2 c3 c4 c5 hcs
        go_upto_block 1 with fail
        go_cut [] (fun wc => ∃ (t' : Nat) (ν' : Net) (τ' : TSt) (σ' : Sg), Mach wc B mb t' (4 * i + 4) ν' τ' σ' ∧ Hid (Bsy ν') ∧ Below w.heap.size w wc)
        case first =>
          go_upto_region 6 with fail
          go_cut [5] (fun a5 wd => ∃ p5 : Nat, a5 = .pointer (some ⟨p5, 0, none⟩) ∧ OpAt wd p5 o ∧ Mach wd B mb t (4 * i) ν τ σ ∧ Below w.heap.size w wd)
          case first =>
            go_wp2
            go_meet
            case rel =>
              have b1 := one_alloc wr (.cells #[.int .u8 o.kd, .int .i64 o.a, .int .i64 o.b, .int .i64 o.c, .int .u64 o.x, .int .u64 o.y] 32)
              exact ⟨wr.heap.size, rfl, op_new wr o 32, M.below b1, below_to hbw b1 hbw.size⟩
          case rest =>
          clear d0 d1 d2 d3 d4 d5 M hbw
          obtain ⟨p5, rfl, OP, M, hbw⟩ := hcut
          have hst := HST.out M (by omega) o ho
          unfold opV at hst
          obtain ⟨g0, g1, g2, g3, g4, g5⟩ := OP
          go_upto_region 7 with fail
          go_cut [] (fun wd => ∃ (t' : Nat) (ν' : Net) (τ' : TSt) (σ' : Sg), Mach wd B mb t' (4 * i + 4) ν' τ' σ' ∧ Hid (Bsy ν') ∧ Below w.heap.size w wd)
          case first =>
            go_wp2_with fail
            refine hst.mono ?_
            rintro e w2 ⟨zc, co, tk, tm, hm, mm, pp, nn, lf, t', ν', τ', σ', rfl, D2, hS, hby⟩
            have HD := hideIt (And.intro D2.m (And.intro (hby HBY.out) (below_done hbw D2 hbw.size hwB hwm)))
            clear hst D2 hS hby M hbw g0 g1 g2 g3 g4 g5
            go_wp2
            go_meet
            case rel => exact ⟨t', ν', τ', σ', HD.out.1, hideIt HD.out.2.1, HD.out.2.2⟩
          case rest =>
          clear hst M hbw g0 g1 g2 g3 g4 g5 HBY
          obtain ⟨t', ν', τ', σ', M, HBY, hbw⟩ := hcut
          have hcl := clone_any M (by omega)
          have hWx : ∃ W, W = wc := ⟨_, rfl⟩
          obtain ⟨W, hW⟩ := hWx
          have hlB := M.lt
          have hlm := M.mlt
          rw [← hW] at M hbw hlB hlm
          have HWW := hideIt hW
          have hWs : W.heap.size ≤ wc.heap.size := by rw [hW]; exact Nat.le_refl _
          have hbW : Below W.heap.size W wc := by rw [hW]; exact Below.refl _ _
          clear hW
          go_upto_region 8 with fail
          go_cut [6] (fun a6 wd => ∃ B2 mb2 : Nat, a6 = .pointer (some ⟨B2, 0, none⟩) ∧ W.heap.size ≤ B2 ∧ W.heap.size ≤ mb2 ∧ Mach wd B2 mb2 t' (4 * i + 4) ν' τ' σ' ∧ Below W.heap.size W wd)
          case first =>
            go_wp2_with fail
            refine hcl.mono ?_
            rintro e w2 ⟨B2, mb2, rfl, h1, h2', M2, hb2⟩
            have HD := hideIt (And.intro M2 (below_to hbW hb2 hWs))
            clear M2 hb2 hcl hbW
            go_wp2
            go_meet
            case rel => exact ⟨B2, mb2, rfl, by omega, by omega, HD.out.1, HD.out.2⟩
          case rest =>
          clear hcl hWs hbW HWW
          obtain ⟨B2, mb2, rfl, hB2, hm2, M2, hbW⟩ := hcut
          have hsn := snap_full M2
          have hz := zv61
          have hq1 := M2.lt
          have hq2 := M2.mlt
          go_upto_region 9 with fail
          go_cut [7] (fun a7 wd => ∃ (b7 base7 : Nat) (S7 : Snap), a7 = .pointer (some ⟨b7, 0, none⟩) ∧ Mach wd B2 mb2 t' (4 * i + 4) ν' τ' σ' ∧ StAt wd b7 base7 S7 ∧ (B2 < base7 ∧ mb2 < base7 ∧ base7 ≤ b7) ∧ Below W.heap.size W wd ∧ Hid (SnapOf t' ν' τ' σ' S7))
          case first =>
            go_wp2_with fail
            refine hsn.mono ?_
            rintro e w2 ⟨cs, S9, rfl, hcz, hso, hsm, hsc, hb2⟩
            have hon := one_of hsc
            have hrun := store61_new w2 hcz hon
            have HX := hideIt (And.intro hso (And.intro hsm (And.intro hsc (And.intro hb2 hcz))))
            clear hso hsm hsc hb2 hsn hcz hon
            go_wp2_with (first | (refine wpList_store_row rfl (.tmp 7) (.tmp 29) 61 rfl ⟨w2.heap.size, 0, none⟩ (.agg cs) rfl rfl hrun ?_) | go_in)
            go_meet
            case rel =>
              obtain ⟨hso, hsm, hsc, hb2, hcz⟩ := HX.out
              have b1 := one_alloc w2 (.cells cs 61)
              have bb := hb2.trans (b1.mono hb2.size)
              exact ⟨w2.heap.size, wc.heap.size, S9, rfl, M2.below bb, stat_new hcz hsc, ⟨hq1, hq2, hb2.size⟩, below_to hbW bb hbW.size, hideIt hso⟩
          case rest =>
          clear hsn hq1 hq2 M2 hbW
          obtain ⟨b7, base7, S7, rfl, M2, T7, h7, hbW, HS7⟩ := hcut
          have hbx : ∃ b : Nat, b < 65536 ∧ wc.cell? ⟨B2, 6595, none⟩ = some (.int .u16 (b : Int)) ∧ ∀ i, i < 16 → (b.testBit i = true ↔ 0 < cntN ν' i) := by
            obtain ⟨b, e1, e2, e3⟩ := HBY.out
            exact ⟨b, e2, by rw [← e1]; exact M2.net.1.bus, e3⟩
          obtain ⟨bb, hb65, hbc, hbit⟩ := hbx
          have T32c : Tab32 wc := T32.blk ((hbW.block 1 (by have := hbw.size; omega)).trans (hbw.block 1 (by omega)))
          have hfa := fair_any hbc T32c hb65
          have HBIT := hideIt hbit
          have hq1 := M2.lt
          have hq2 := M2.mlt
          clear hbit T32c hbc
          go_upto_region 10 with fail
          go_cut [] (fun wd => ∃ (st : MS) (k' : Nat), Mach wd B2 mb2 st.t k' st.ν st.τ st.σ ∧ StAt wd b7 base7 S7 ∧ Below W.heap.size W wd ∧ Hid (∃ l, (l.Nodup ∧ ∀ i, i ∈ l ↔ i < 16 ∧ 0 < cntN ν' i) ∧ RunR (fairL l) ⟨t', ν', τ', σ'⟩ st))
          case first =>
            go_wp2_with fail
            refine hfa.mono ?_
            rintro e w2 ⟨v, l, rfl, hown, hl, hb2⟩
            obtain ⟨pv, cv, rfl⟩ := own_shape hown
            obtain ⟨gv, rfl, hg1, hg2, hcap, hcs'⟩ := ops_in hown (fun e => by have := fairL_len l; rw [e] at this; simp at this; omega)
            have hl16 : l.length ≤ 16 := nodup_le 16 l hl.1 (fun x hx => ((hl.2 x).1 hx).1)
            have hfl := fairL_len l
            have hrun := run_any (M2.below hb2) rfl (by omega) (by omega) (fair_ok l) ⟨hg2, by omega, by omega⟩ hcs' hcap
            have T7' := T7.below hb2
            have hbW' := below_to hbW hb2 hbW.size
            have HL2 : Hid (l.Nodup ∧ ∀ i, i ∈ l ↔ i < 16 ∧ 0 < cntN ν' i) := hideIt ⟨hl.1, fun x => by
              rw [hl.2 x]
              constructor
              · rintro ⟨h1, h2⟩
                exact ⟨h1, (HBIT.out x h1).1 h2⟩
              · rintro ⟨h1, h2⟩
                exact ⟨h1, (HBIT.out x h1).2 h2⟩⟩
            clear hown hl hcs' hfa T7 hbW M2 hfl
            go_wp2_with fail
            refine hrun.mono ?_
            rintro e w3 ⟨v3, st, rfl, D, hR⟩
            have HD := hideIt (And.intro D.m (And.intro (T7'.done D (by omega) (by omega)) (And.intro (below_done hbW' D hbW'.size hB2 hm2) hR)))
            clear hrun D hR T7' hbW'
            go_wp2
            go_meet
            case rel =>
              obtain ⟨d1, d2, d3, d4⟩ := HD.out
              exact ⟨st, _, d1, d2, d3, hideIt ⟨l, HL2.out, d4⟩⟩
          case rest =>
          have HM2 := hideIt M2
          clear hfa M2 T7 hbW HBIT hq1 hq2
          obtain ⟨st, k', M2, T7, hbW, HR⟩ := hcut
          have hsn := snap_full M2
          go_upto_region 11 with fail
          go_cut [8] (fun a8 wd => ∃ (b8 base8 : Nat) (S8 : Snap), a8 = .pointer (some ⟨b8, 0, none⟩) ∧ (StAt wd b7 base7 S7 ∧ StAt wd b8 base8 S8 ∧ Below W.heap.size W wd) ∧ Hid (Fair S7 S8))
          case first =>
            go_wp2_with fail
            refine hsn.mono ?_
            rintro e w2 ⟨cs, S9, rfl, hcz, hso, hsm, hsc, hb2⟩
            have hon := one_of hsc
            have hrun := store61_new w2 hcz hon
            have HX := hideIt (And.intro hso (And.intro hsm (And.intro hsc (And.intro hb2 hcz))))
            clear hso hsm hsc hb2 hsn hcz hon
            go_wp2_with (first | (refine wpList_store_row rfl (.tmp 8) (.tmp 35) 61 rfl ⟨w2.heap.size, 0, none⟩ (.agg cs) rfl rfl hrun ?_) | go_in)
            go_meet
            case rel =>
              obtain ⟨hso, hsm, hsc, hb2, hcz⟩ := HX.out
              have b1 := one_alloc w2 (.cells cs 61)
              have bb' := hb2.trans (b1.mono hb2.size)
              obtain ⟨l, hl, hR⟩ := HR.out
              exact ⟨w2.heap.size, wc.heap.size, S9, rfl, ⟨T7.below bb', stat_new hcz hsc, below_to hbW bb' hbW.size⟩, hideIt (fair_snap (a := ⟨t', ν', τ', σ'⟩) HM2.out M2 HS7.out hso hl hR)⟩
          case rest =>
          clear hsn hz M2 T7 hbW HR HM2 HS7
          obtain ⟨b8, base8, S8, rfl, FF, HF⟩ := hcut
          obtain ⟨t0, ht0, e7, e8⟩ := HF.out.now
          have u7 := FF.1.now
          have u8 := FF.2.1.now
          rw [e7] at u7
          rw [e8] at u8
          clear e7 e8
          have hla := fun w' => later_any (t := t0) (n := 1) ht0 (by decide) w'
          go_upto_region 12 with fail
          go_region_held3 (fun w' => w'.cell? ⟨b8, 0, none⟩ = some (.int .u64 ((afterF t0 1 : Nat) : Int)) ∧ w'.cell? ⟨b7, 0, none⟩ = some (.int .u64 (t0 : Int))) (exact ⟨u8, u7⟩) (first | (go_at_call 39; refine (hla _).mono ?_; rintro e w1 ⟨rfl, rfl⟩))
          have FF' : (StAt wc.drew b7 base7 S7 ∧ StAt wc.drew b8 base8 S8 ∧ Below W.heap.size W wc.drew) := ⟨FF.1.below (below_dr (Below.refl _ _)), FF.2.1.below (below_dr (Below.refl _ _)), below_dr FF.2.2⟩
          clear FF u7 u8 hla
          have FF := FF'
          clear FF'
          go_wp2_with fail
          go_loopg [42] 4 (fun gg v wr => ∃ c : Nat, c + gg = 4 ∧ v = .int .i64 (c : Int) ∧ (StAt wr b7 base7 S7 ∧ StAt wr b8 base8 S8 ∧ Below W.heap.size W wr))
          case atStart => exact ⟨0, by omega, rfl, FF⟩
          case round =>
            clear FF
            obtain ⟨c, hcg, rfl, FF⟩ := hrel
            by_cases hc4 : c < 4
            · have c0 : (0 : Int) ≤ c := by omega
              have c1 : (c : Int) < 4 := by omega
              obtain ⟨T7, T8, hbW⟩ := FF
              obtain ⟨x0, ⟨v1, x1, y1⟩, _, x3⟩ := T7.cores hc4
              obtain ⟨_, _, _, z3⟩ := T8.cores hc4
              have x3' := x3 0 (by omega)
              have z3' := z3 0 (by omega)
              simp only [Nat.add_zero] at x3' z3'
              obtain ⟨p1, cap1, rfl⟩ := y1.shape
              have hst := HF.out.st c hc4
              clear x3 z3 y1
              generalize hA : S8.st (c * 7) = A8 at z3' hst
              generalize hB : S7.st (c * 7) = A7 at x3' hst
              clear hA hB
              generalize hq : (S7.q c).length = nq at x1 hst
              clear hq
              generalize hcu : S7.cur c = cu at x0 hst
              clear hcu
              have hsv : ∃ sv : Int, IntKind.u64.wrap (A8 - A7) = sv := ⟨_, rfl⟩
              obtain ⟨sv, es⟩ := hsv
              rw [es] at hst
              have HSV := hideIt hst
              clear hst
              go_upto_region 17 with fail
              go_region_held3 (fun w' => w'.cell? ⟨b8, 49 + c * 10 + 3, none⟩ = some (.int .u64 A8) ∧ w'.cell? ⟨b7, 49 + c * 10 + 3, none⟩ = some (.int .u64 A7)) (exact ⟨z3', x3'⟩) (fail)
              by_cases hcn : cu = -1
              · have e1 : (cu != -1) = false := by simp [hcn]
                by_cases hnq : 0 < nq
                · have hg : (0 : Int) < (nq : Int) := by omega
                  have e2 : sv = 1 := by rw [HSV.out, if_pos (.inr hnq)]
                  subst e2
                  clear HSV hcn es
                  go_wp2
                  go_roundg (4 - (c + 1))
                  case measure => omega
                  case rel => exact ⟨c + 1, by omega, by go_num, T7.below (below_dr (Below.refl _ _)), T8.below (below_dr (Below.refl _ _)), below_dr hbW⟩
                · have hg : ¬ ((0 : Int) < (nq : Int)) := by omega
                  have e2 : sv = 0 := by
                    rw [HSV.out, if_neg]
                    rintro (z | z)
                    · exact z hcn
                    · exact hnq z
                  subst e2
                  clear HSV hcn es
                  go_wp2
                  go_roundg (4 - (c + 1))
                  case measure => omega
                  case rel => exact ⟨c + 1, by omega, by go_num, T7.below (below_dr (Below.refl _ _)), T8.below (below_dr (Below.refl _ _)), below_dr hbW⟩
              · have e1 : (cu != -1) = true := by simpa using hcn
                have e2 : sv = 1 := by rw [HSV.out, if_pos (.inl hcn)]
                subst e2
                clear HSV hcn es
                go_wp2
                go_roundg (4 - (c + 1))
                case measure => omega
                case rel => exact ⟨c + 1, by omega, by go_num, T7.below (below_dr (Below.refl _ _)), T8.below (below_dr (Below.refl _ _)), below_dr hbW⟩
            · have e : c = 4 := by omega
              subst e
              go_wp2_with fail
              go_loopg [87] 16 (fun gg v wr => ∃ j : Nat, j + gg = 16 ∧ v = .int .i64 (j : Int) ∧ (StAt wr b7 base7 S7 ∧ StAt wr b8 base8 S8 ∧ Below W.heap.size W wr))
              case atStart => exact ⟨0, by omega, rfl, FF⟩
              case round =>
                clear FF
                obtain ⟨j, hjg, rfl, FF⟩ := hrel
                by_cases hj : j < 16
                · have j0 : (0 : Int) ≤ j := by omega
                  have j1 : (j : Int) < 16 := by omega
                  obtain ⟨T7, T8, hbW⟩ := FF
                  obtain ⟨⟨v1, x1, y1⟩, _⟩ := T7.boxes hj
                  obtain ⟨⟨v2, x2, y2⟩, _⟩ := T8.boxes hj
                  obtain ⟨p1, cap1, rfl⟩ := y1.shape
                  obtain ⟨p2, cap2, rfl⟩ := y2.shape
                  have hbx := HF.out.box j hj
                  clear y1 y2
                  generalize (S7.box j).length = n7 at x1 hbx
                  generalize (S8.box j).length = n8 at x2 hbx
                  have hw : IntKind.i64.wrap ((n7 : Int) - 1) = (n7 : Int) - 1 := by rw [IntKind.wrap_i64]; omega
                  have hmx : (if (0 : Int) > (n7 : Int) - 1 then (0 : Int) else (n7 : Int) - 1) = (n8 : Int) := by split <;> omega
                  have hne : ((n8 : Int) != (n8 : Int)) = false := by simp
                  clear hbx
                  go_upto_region 25 with fail
                  go_region_held3 (fun w' => w'.cell? ⟨b8, 89 + j, none⟩ = some (.slice p2 n8 cap2) ∧ w'.cell? ⟨b7, 89 + j, none⟩ = some (.slice p1 n7 cap1)) (exact ⟨x2, x1⟩) (fail)
                  go_wp2
                  go_roundg (16 - (j + 1))
                  case measure => omega
                  case rel => exact ⟨j + 1, by omega, by go_num, T7.below (below_dr (Below.refl _ _)), T8.below (below_dr (Below.refl _ _)), below_dr hbW⟩
                · have e : j = 16 := by omega
                  subst e
                  go_wp2
                  go_meet
                  case rel => exact ⟨t', ν', τ', σ', M.below FF.2.2, HBY, below_to hbw FF.2.2 hbw.size⟩
        case rest =>
          obtain ⟨t', ν', τ', σ', M', HBY', hb'⟩ := hcut
          go_wp2
          go_roundg (n - (i + 1))
          case measure => omega
          case rel => exact ⟨i + 1, t', ν', τ', σ', by omega, by go_num, M', HBY', hb'⟩
      · have e : i = n := by omega
        subst e
        go_wp2
        go_ret
        exact ⟨rfl, hbw⟩
  · rw [decide_eq_false hb] at hsm
    go_enter Tryz.func13, Tryz.ntmps13
    go_wp2_with fail
    refine hsm.mono ?_
    rintro e w ⟨rfl, rfl⟩
    go_wp2
    go_ret
    exact ⟨rfl, Below.refl _ _⟩
end Go.Proofs.Qxb6500877aGreatDoor
