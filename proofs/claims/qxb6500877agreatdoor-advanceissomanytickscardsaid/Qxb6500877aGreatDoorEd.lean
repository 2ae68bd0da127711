import Derived.Deep.CutBlock
import Derived.Laws.AppendOwnNone
import Derived.OwnWalk
import Derived.Test.Qxb6500877aGreatDoorEc
set_option linter.unusedVariables false
set_option linter.unusedSimpArgs false
namespace Go.Proofs.Qxb6500877aGreatDoor
open Go.RowKit

set_option maxRecDepth 20000 in
set_option maxHeartbeats 16000000 in
theorem law12 {p : Option Addr} {n c : Nat} {L : List OpS} {w : World} (h : OpsIn w p L) (hn : L.length = n) (hok : ∀ o ∈ L, o.ok) (hnc : n ≤ c) (V : Vac w) (TB : TabAt w) (h2 : 2 < w.heap.size) :
    Calls Tryz.prog 12 #[.slice p n c] w fun e w' => e = .returned (.bool true) ∧ Below w.heap.size w w' := by
  have HST : Hid (∀ {w : World} {B mb t k : Nat} {ν : Net} {τ : TSt} {σ : Sg}, Mach w B mb t k ν τ σ → k < 800000 → ∀ (o : OpS), o.ok → Calls Tryz.prog 19 #[.pointer (some ⟨B, 0, none⟩), opV o] w fun e w' => StepZ w w' B mb t k ν τ σ e) := hideIt (fun M hk o ho => step_z M hk o ho)
  have hsm := small_any (p := p) (n := n) (c := c) w
  by_cases hb : n ≤ 65536
  · rw [decide_eq_true hb] at hsm
    go_enter Tryz.func12, Tryz.ntmps12
    go_wp2_with fail
    refine hsm.mono ?_
    rintro e w ⟨rfl, rfl⟩
    go_wp2_with fail
    refine (new_any V TB h2).mono ?_
    rintro e w1 ⟨B, mb, σ0, rfl, M1, hwB, hwm, hb1⟩
    go_wp2_with fail
    go_loopg [23] n (fun gg v wr => ∃ (i t : Nat) (ν : Net) (τ : TSt) (σ : Sg), i + gg = n ∧ v = .int .i64 (i : Int) ∧ Mach wr B mb t (4 * i) ν τ σ ∧ Below w.heap.size w wr)
    case atStart => exact ⟨0, 0, net0, τ0, σ0, by omega, rfl, M1, hb1⟩
    case round =>
      clear M1 hb1
      obtain ⟨i, t, ν, τ, σ, hig, rfl, M, hbw⟩ := hrel
      by_cases hi : i < n
      · have i0 : (0 : Int) ≤ i := by omega
        have i1 : (i : Int) < (n : Int) := by omega
        have hi' : i < L.length := by omega
        obtain ⟨b, off, rfl, hcs⟩ : ∃ b off, p = some ⟨b, off, none⟩ ∧ ∀ j (h : j < L.length), OpCs w b (off + j * 6) L[j] := by
          rcases h with h | h
          · rw [h] at hi'; simp at hi'
          · exact h
        have hC := hcs i hi'
        have ho := hok _ (List.getElem_mem hi')
        generalize L[i] = o at hC ho
        obtain ⟨c0, c1, c2, c3, c4, c5⟩ := hC
        have d0 := cell_later hbw c0
        have d1 := cell_later hbw c1
        have d2 := cell_later hbw c2
        have d3 := cell_later hbw c3
        have d4 := cell_later hbw c4
        have d5 := cell_later hbw c5
        clear c0 c1 c2 c3 c4 c5 hcs
        go_upto_block 1 with fail
        go_cut [] (fun wc => ∃ (t' : Nat) (ν' : Net) (τ' : TSt) (σ' : Sg), Mach wc B mb t' (4 * i + 4) ν' τ' σ' ∧ Below w.heap.size w wc)
        case first =>
          go_upto_region 6 with fail
          go_cut [5] (fun a5 wc => ∃ b5 : Nat, a5 = .pointer (some ⟨b5, 0, none⟩) ∧ OpAt wc b5 o ∧ Mach wc B mb t (4 * i) ν τ σ ∧ Below w.heap.size w wc ∧ (B < b5 ∧ mb < b5))
          case first =>
            go_wp2
            go_meet
            case rel =>
              have b1 := one_alloc wr (.cells #[.int .u8 o.kd, .int .i64 o.a, .int .i64 o.b, .int .i64 o.c, .int .u64 o.x, .int .u64 o.y] 32)
              exact ⟨wr.heap.size, rfl, op_new wr o 32, M.below b1, below_to hbw b1 hbw.size, M.lt, M.mlt⟩
          case rest =>
          clear d0 d1 d2 d3 d4 d5 M hbw
          obtain ⟨b5, rfl, OP, M, hbw, h5⟩ := hcut
          have hOP := OP.lt
          have OP' := OP
          obtain ⟨g0, g1, g2, g3, g4, g5⟩ := OP'
          have htk := ticksOf_any o wc
          have htl : tickOf o < 18446744073709551616 := by unfold tickOf; have := ho.x; split; omega; split; omega; omega
          obtain ⟨nt, HNN⟩ : ∃ nt, Hid (tickOf o = nt) := ⟨_, hideIt rfl⟩
          rw [HNN.out] at htk htl
          unfold opV at htk
          go_upto_region 7 with fail
          go_cut [6] (fun a6 wd => a6 = .int .u64 (nt : Int) ∧ OpAt wd b5 o ∧ Mach wd B mb t (4 * i) ν τ σ ∧ Below w.heap.size w wd)
          case first =>
            go_wp2_with fail
            refine htk.mono ?_
            rintro e w1 ⟨rfl, hb1⟩
            go_wp2
            go_meet
            case rel => exact ⟨rfl, OP.blk (hb1.block b5 hOP), M.below hb1, below_to hbw hb1 hbw.size⟩
          case rest =>
          clear htk g0 g1 g2 g3 g4 g5 OP M hbw hOP
          obtain ⟨rfl, OP, M, hbw⟩ := hcut
          have hOP := OP.lt
          have OP' := OP
          obtain ⟨g0, g1, g2, g3, g4, g5⟩ := OP'
          by_cases hn0 : nt = 0
          · subst hn0
            have hst := HST.out M (by omega) o ho
            unfold opV at hst
            go_upto_region 9 with fail
            go_wp2_with fail
            refine hst.mono ?_
            rintro e w2 ⟨c', co, tk, tm, hm, mm, pp, nn, l, t', ν', τ', σ', rfl, hF, D, hZ⟩
            go_wp2
            go_meet
            case rel => exact ⟨t', ν', τ', σ', D.m, below_done hbw D hbw.size hwB hwm⟩
          have hnb : ((nt : Int) == 0) = false := by simp; omega
          go_upto_region 10 with fail
          go_cut [7, 8] (fun a7 a8 wd => ∃ (B1 mb1 B2 mb2 N : Nat), a7 = .pointer (some ⟨B1, 0, none⟩) ∧ a8 = .pointer (some ⟨B2, 0, none⟩) ∧ TQ w.heap.size w wd B mb t (4 * i) ν τ σ B1 mb1 t (4 * i) τ σ B2 mb2 t (4 * i) τ σ N ∧ OpAt wd b5 o)
          case first =>
            go_wp2_with fail
            refine (clone_any M (by omega)).mono ?_
            rintro e w1 ⟨B1, mb1, rfl, q1, q2, M1, hb1⟩
            have M' := M.below hb1
            go_wp2_with fail
            refine (clone_any M' (by omega)).mono ?_
            rintro e w2 ⟨B2, mb2, rfl, q3, q4, M2, hb2⟩
            go_wp2
            go_meet
            case rel =>
              have l1 := M1.lt
              have l2 := M1.mlt
              have s1 := hb1.size
              have bw1 := below_to hbw hb1 hbw.size
              exact ⟨B1, mb1, B2, mb2, w2.heap.size, rfl, rfl, ⟨M'.below hb2, M1.below hb2, M2, below_to bw1 hb2 bw1.size, by have := hbw.size; have := hb2.size; omega, ⟨hwB, hwm⟩, by have := M.lt; have := M.mlt; omega, by omega, by have := M2.lt; have := M2.mlt; omega⟩, (OP.blk (hb1.block b5 hOP)).blk (hb2.block b5 (by omega))⟩
          case rest =>
          clear OP M hbw hOP g0 g1 g2 g3 g4 g5
          obtain ⟨B1, mb1, B2, mb2, N, rfl, rfl, H, OP⟩ := hcut
          have hOP := OP.lt
          have OP' := OP
          obtain ⟨g0, g1, g2, g3, g4, g5⟩ := OP'
          have hst := step_tick H.m (by omega) o ho (by rw [HNN.out]; exact hn0)
          rw [HNN.out] at hst
          unfold opV at hst
          have HM0 := hideIt H.m
          go_upto_region 11 with fail
          go_cut [9] (fun a9 wd => ∃ (v9 : Value) (base9 : Nat) (l : List FiredS) (τ' : TSt), a9 = v9 ∧ N ≤ base9 ∧ FrAt wd base9 v9 l ∧ TQ w.heap.size w wd B mb (afterF t nt) (4 * i + 4) ν τ' (firedSg σ l) B1 mb1 t (4 * i) τ σ B2 mb2 t (4 * i) τ σ N ∧ OpAt wd b5 o ∧ l.length ≤ 64 ∧ Hid (AdvanceR τ τ' t nt l))
          case first =>
            go_wp2_with fail
            refine hst.mono ?_
            rintro e w2 ⟨v, l, τ', hE, hF, D, A⟩
            obtain ⟨p9, a9, n9, rfl, rfl⟩ := hE
            have HX := hideIt (And.intro hF (And.intro (H.zero D) (And.intro (OP.blk (D.f.block b5 hOP (by omega) (by omega))) (And.intro (A.len H.m) (And.intro A H.h3.2.2)))))
            clear hF D A H OP hst
            go_wp2_with (first | (refine wpList_field43 rfl (.tmp 40) rfl rfl ?_) | go_in)
            go_meet
            case rel =>
              obtain ⟨hF, H, OP, hl, A, hN⟩ := HX.out
              exact ⟨_, wc.heap.size, l, τ', rfl, hN, fr_of hF, H, OP, hl, hideIt A⟩
          case rest =>
          clear hst H OP hOP g0 g1 g2 g3 g4 g5
          obtain ⟨v9, base9, l, τ', rfl, h9, F9, H, OP, hl64, HA⟩ := hcut
          have hOP := OP.lt
          obtain ⟨p9, c9, rfl⟩ := F9.shape
          have hsn := snap_full H.m
          have hz := zv61
          go_upto_region 12 with fail
          go_cut [10] (fun a10 wd => ∃ (b10 base10 : Nat) (S10 : Snap), a10 = .pointer (some ⟨b10, 0, none⟩) ∧ TQ w.heap.size w wd B mb (afterF t nt) (4 * i + 4) ν τ' (firedSg σ l) B1 mb1 t (4 * i) τ σ B2 mb2 t (4 * i) τ σ N ∧ SP wd b10 base10 N (afterF t nt) ν τ' (firedSg σ l) S10 ∧ FrAt wd base9 (.slice p9 l.length c9) l ∧ OpAt wd b5 o)
          case first =>
            go_wp2_with fail
            refine hsn.mono ?_
            rintro e w2 ⟨cs, S8, rfl, hcz, hso, hsm, hsc, hb2⟩
            have hon := one_of hsc
            have hrun := store61_new w2 hcz hon
            have HX := hideIt (And.intro hso (And.intro hsm (And.intro hsc (And.intro hb2 hcz))))
            clear hso hsm hsc hb2 hsn hcz hon
            go_wp2_with (first | (refine wpList_store_row rfl (.tmp 10) (.tmp 43) 61 rfl ⟨w2.heap.size, 0, none⟩ (.agg cs) rfl rfl hrun ?_) | go_in)
            go_meet
            case rel =>
              obtain ⟨hso, hsm, hsc, hb2, hcz⟩ := HX.out
              have b1 := one_alloc w2 (.cells cs 61)
              have bb := hb2.trans (b1.mono hb2.size)
              exact ⟨w2.heap.size, wc.heap.size, S8, rfl, H.keep bb, sp_new hcz hsc hso hsm H.h3.2.2 hb2, F9.below bb, OP.blk (bb.block b5 hOP)⟩
          case rest =>
          clear hsn hz
          clear H F9 OP hOP
          obtain ⟨b10, base10, S10, rfl, H, P10, F9, OP⟩ := hcut
          have g5 := OP.c5
          go_upto_region 13 with fail
          go_cut [11] (fun a11 wd => a11 = .int .u64 ((o.y % nt : Nat) : Int) ∧ wd = wc)
          case first =>
            go_wp2
            go_meet
            case rel => exact ⟨by first | rfl | go_num | (congr 1; omega), rfl⟩
          case rest =>
          obtain ⟨rfl, hcw⟩ := hcut
          have hcw' := hcw.symm
          clear hcw g5 OP
          subst hcw'
          have hkn := Nat.mod_lt o.y (show nt > 0 by omega)
          generalize o.y % nt = kk at hkn
          obtain ⟨d, hd⟩ : ∃ d, nt = kk + d := ⟨nt - kk, by omega⟩
          have hdi : (nt : Int) - (kk : Int) = (d : Int) := by omega
          have d0 : (0 : Int) ≤ d := by omega
          have d1 : (d : Int) < 18446744073709551616 := by omega
          have HHD := hideIt hd
          clear hd
          have adv1 := advance_m (n := kk) H.m1 (by omega)
          have hB1 := H.m1.lt
          have hm1 := H.m1.mlt
          go_upto_region 14 with fail
          go_cut [12] (fun a12 wd => ∃ (v12 : Value) (base12 : Nat), a12 = v12 ∧ FrAt wd base12 v12 l ∧ TQ w.heap.size w wd B mb (afterF t nt) (4 * i + 4) ν τ' (firedSg σ l) B1 mb1 (afterF t nt) (4 * i) τ' (firedSg σ l) B2 mb2 t (4 * i) τ σ N ∧ SP wd b10 base10 N (afterF t nt) ν τ' (firedSg σ l) S10 ∧ FrAt wd base9 (.slice p9 l.length c9) l)
          case first =>
            go_wp2_with fail
            refine adv1.mono ?_
            rintro e w1 ⟨v1, l1, τ1, rfl, hF1, D1, A1⟩
            have hl1 := A1.len H.m1
            obtain ⟨p1, c1, rfl⟩ := fired_shape hF1
            have adv2 := advance_m (n := d) D1.m (by omega)
            have HA1 := hideIt A1
            clear A1 adv1
            go_wp2_with fail
            refine adv2.mono ?_
            rintro e w2 ⟨v2, l2, τ2, rfl, hF2, D2, A2⟩
            have hl2 := A2.len D1.m
            obtain ⟨p2, c2, rfl⟩ := fired_shape hF2
            have hF1' := hF1.over D2 ⟨hB1, hm1⟩
            have hsz : wc.heap.size ≤ w2.heap.size := Nat.le_trans D1.f.size D2.f.size
            have HA2 := hideIt A2
            have HD := hideIt (D1.andThen D2)
            have HOW := hideIt hF1.own
            clear A2 adv2 D1 D2
            go_wp2_with (first | (at_builtin; refine wpList_append_fired rfl (.tmp 50) (.tmp 55) rfl rfl rfl hF1' hF2 (by omega) (by omega) ?_; intro v3 w3 hF3 hg3) | go_in)
            go_meet
            case rel =>
              have D := HD.out.grown hB1 hm1 hg3 HOW.out
              have A := AdvanceR.comp H.m1.tlt HA1.out HA2.out
              rw [← HHD.out] at A
              obtain ⟨e1, e2⟩ := A.unique HA.out
              rw [afterF_add _ _ _ H.m1.tlt, ← HHD.out, firedSg_app, e1, e2] at D
              rw [e1] at hF3
              have hN := H.h3
              have hN2 := H.h2
              exact ⟨v3, wc.heap.size, rfl, fr_of hF3, H.one D, P10.over D (by omega), F9.over D (by omega)⟩
          case rest =>
          clear adv1 hB1 hm1 H P10 F9 d0 d1 hdi
          obtain ⟨v12, base12, rfl, F12, H, P10, F9⟩ := hcut
          obtain ⟨p12, c12, rfl⟩ := F12.shape
          have hsn := snap_full H.m1
          have hz := zv61
          go_upto_region 15 with fail
          go_cut [13] (fun a13 wd => ∃ (b13 base13 : Nat) (S13 : Snap), a13 = .pointer (some ⟨b13, 0, none⟩) ∧ TQ w.heap.size w wd B mb (afterF t nt) (4 * i + 4) ν τ' (firedSg σ l) B1 mb1 (afterF t nt) (4 * i) τ' (firedSg σ l) B2 mb2 t (4 * i) τ σ N ∧ SP wd b13 base13 N (afterF t nt) ν τ' (firedSg σ l) S13 ∧ SP wd b10 base10 N (afterF t nt) ν τ' (firedSg σ l) S10 ∧ FrAt wd base9 (.slice p9 l.length c9) l ∧ FrAt wd base12 (.slice p12 l.length c12) l)
          case first =>
            go_wp2_with fail
            refine hsn.mono ?_
            rintro e w2 ⟨cs, S8, rfl, hcz, hso, hsm, hsc, hb2⟩
            have hon := one_of hsc
            have hrun := store61_new w2 hcz hon
            have HX := hideIt (And.intro hso (And.intro hsm (And.intro hsc (And.intro hb2 hcz))))
            clear hso hsm hsc hb2 hsn hcz hon
            go_wp2_with (first | (refine wpList_store_row rfl (.tmp 13) (.tmp 58) 61 rfl ⟨w2.heap.size, 0, none⟩ (.agg cs) rfl rfl hrun ?_) | go_in)
            go_meet
            case rel =>
              obtain ⟨hso, hsm, hsc, hb2, hcz⟩ := HX.out
              have b1 := one_alloc w2 (.cells cs 61)
              have bb := hb2.trans (b1.mono hb2.size)
              exact ⟨w2.heap.size, wc.heap.size, S8, rfl, H.keep bb, sp_new hcz hsc hso hsm H.h3.2.2 hb2, P10.keep bb, F9.below bb, F12.below bb⟩
          case rest =>
          clear hsn hz
          clear H P10 F9 F12
          obtain ⟨b13, base13, S13, rfl, H, P13, P10, F9, F12⟩ := hcut
          have heq := P13.equal P10
          go_upto_region 16 with fail
          go_cut [66] (fun a66 wd => a66 = .bool false ∧ TQ w.heap.size w wd B mb (afterF t nt) (4 * i + 4) ν τ' (firedSg σ l) B1 mb1 (afterF t nt) (4 * i) τ' (firedSg σ l) B2 mb2 t (4 * i) τ σ N ∧ SP wd b10 base10 N (afterF t nt) ν τ' (firedSg σ l) S10 ∧ FrAt wd base9 (.slice p9 l.length c9) l)
          case first =>
            go_wp2_with fail
            refine heq.mono ?_
            rintro e w3 ⟨rfl, hb3⟩
            have heq2 := eq_fired (F12.below hb3) (F9.below hb3) (by omega)
            go_wp2_with fail
            refine heq2.mono ?_
            rintro e w4 ⟨rfl, hb4⟩
            go_wp2
            go_meet
            case rel => exact ⟨rfl, (H.keep hb3).keep hb4, (P10.keep hb3).keep hb4, (F9.below hb3).below hb4⟩
          case rest =>
          clear heq H P13 P10 F9 F12
          obtain ⟨rfl, H, P10, F9⟩ := hcut
          by_cases h200 : 200 < nt
          · have hgt : (nt : Int) > 200 := by omega
            go_upto_region 18 with fail
            go_wp2
            go_meet
            case rel => exact ⟨afterF t nt, ν, τ', firedSg σ l, H.m, H.b⟩
          have hgt : ¬ ((nt : Int) > 200) := by omega
          have hgt' : ¬ (200 < (nt : Int)) := by omega
          have hB2 := H.m2.lt
          have hm2 := H.m2.mlt
          have hN := H.h3
          have hN2 := H.h2
          have htl2 := H.m2.tlt
          go_upto_region 19 with fail
          go_wp2_with fail
          go_loopg [14, 15] nt (fun gg v14 v15 wr => ∃ (j : Nat) (lj : List FiredS) (τj : TSt), j + gg = nt ∧ v15 = .int .u64 (j : Int) ∧ FiredAt wr wc.heap.size v14 lj ∧ Done wc wr B2 mb2 (afterF t j) (4 * i) ν τj (firedSg σ lj) ∧ Hid (AdvanceR τ τj t j lj))
          case atStart =>
            refine ⟨0, [], τ, by omega, rfl, FiredAt.nil _ _, ?_, hideIt ⟨rfl, .inl ⟨rfl, rfl, rfl⟩⟩⟩
            rw [afterF_nil]
            exact Done.refl H.m2
          case round =>
            obtain ⟨j, lj, τj, hjg, rfl, hF, D, HAj⟩ := hrel
            obtain ⟨p14, c14, rfl⟩ := fired_shape hF
            by_cases hj : j < nt
            · have j0 : (0 : Int) ≤ j := by omega
              have j1 : (j : Int) < (nt : Int) := by omega
              have htick := tick_m D.m
              have hlj := HAj.out.len HM0.out
              go_wp2_with fail
              refine htick.mono ?_
              rintro e w1 ⟨v1, l1, τ1, rfl, hF1, D1, A1⟩
              have hl1 := A1.len D.m
              obtain ⟨p1, c1, rfl⟩ := fired_shape hF1
              have hF' := hF.over D1 ⟨hB2, hm2⟩
              have hsz : wc.heap.size ≤ w1.heap.size := Nat.le_trans D.f.size D1.f.size
              have HA1 := hideIt A1
              have HD := hideIt (D.andThen D1)
              have HOW := hideIt hF.own
              clear A1 htick D1 D
              go_wp2_with (first | (at_builtin; refine wpList_append_fired rfl (.tmp 74) (.tmp 76) rfl rfl rfl hF' hF1 (by omega) (by omega) ?_; intro v3 w3 hF3 hg3) | go_in)
              go_roundg (nt - (j + 1))
              case measure => omega
              case rel =>
                have D := HD.out.grown hB2 hm2 hg3 HOW.out
                rw [afterF_add _ _ _ htl2, firedSg_app] at D
                exact ⟨j + 1, lj ++ l1, τ1, by omega, by go_num, hF3, D, hideIt (AdvanceR.comp htl2 HAj.out HA1.out)⟩
            · have e : j = nt := by omega
              subst e
              obtain ⟨e1, e2⟩ := HAj.out.unique HA.out
              subst e1
              subst e2
              have H' := H.two D
              have P10' := P10.over D (by omega)
              have F9' := F9.over D (by omega)
              have F14 := fr_of hF
              clear H P10 F9 hF D HAj
              have H := H'
              clear H'
              have hsn := snap_full H.m2
              have hz := zv61
              go_upto_region 24 with fail
              go_cut [16] (fun a16 wd => ∃ (b16 base16 : Nat) (S16 : Snap), a16 = .pointer (some ⟨b16, 0, none⟩) ∧ TQ w.heap.size w wd B mb (afterF t j) (4 * i + 4) ν τj (firedSg σ lj) B1 mb1 (afterF t j) (4 * i) τj (firedSg σ lj) B2 mb2 (afterF t j) (4 * i) τj (firedSg σ lj) N ∧ SP wd b16 base16 N (afterF t j) ν τj (firedSg σ lj) S16 ∧ SP wd b10 base10 N (afterF t j) ν τj (firedSg σ lj) S10 ∧ FrAt wd base9 (.slice p9 lj.length c9) lj ∧ FrAt wd wc.heap.size (.slice p14 lj.length c14) lj)
              case first =>
                go_wp2_with fail
                refine hsn.mono ?_
                rintro e w2 ⟨cs, S8, rfl, hcz, hso, hsm, hsc, hb2⟩
                have hon := one_of hsc
                have hrun := store61_new w2 hcz hon
                have HX := hideIt (And.intro hso (And.intro hsm (And.intro hsc (And.intro hb2 hcz))))
                clear hso hsm hsc hb2 hsn hcz hon
                go_wp2_with (first | (refine wpList_store_row rfl (.tmp 16) (.tmp 79) 61 rfl ⟨w2.heap.size, 0, none⟩ (.agg cs) rfl rfl hrun ?_) | go_in)
                go_meet
                case rel =>
                  obtain ⟨hso, hsm, hsc, hb2, hcz⟩ := HX.out
                  have b1 := one_alloc w2 (.cells cs 61)
                  have bb := hb2.trans (b1.mono hb2.size)
                  exact ⟨w2.heap.size, wr.heap.size, S8, rfl, H.keep bb, sp_new hcz hsc hso hsm H.h3.2.2 hb2, P10'.keep bb, F9'.below bb, F14.below bb⟩
              case rest =>
              clear hsn hz
              clear H P10' F9' F14
              obtain ⟨b16, base16, S16, rfl, H, P16, P10, F9, F14⟩ := hcut
              have heq := P16.equal P10
              go_upto_region 25 with fail
              go_wp2_with fail
              refine heq.mono ?_
              rintro e w3 ⟨rfl, hb3⟩
              have heq2 := eq_fired (F14.below hb3) (F9.below hb3) (by omega)
              go_wp2_with fail
              refine heq2.mono ?_
              rintro e w4 ⟨rfl, hb4⟩
              go_wp2
              go_meet
              case rel => exact ⟨_, ν, _, _, H.m.below (Below.trans hb3 (hb4.mono hb3.size)), below_to (below_to H.b hb3 H.s) hb4 (Nat.le_trans H.s hb3.size)⟩
        case rest =>
          obtain ⟨t', ν', τ', σ', M', hb'⟩ := hcut
          go_wp2
          go_roundg (n - (i + 1))
          case measure => omega
          case rel => exact ⟨i + 1, t', ν', τ', σ', by omega, by go_num, M', hb'⟩
      · have e : i = n := by omega
        subst e
        go_wp2
        go_ret
        exact ⟨rfl, hbw⟩
  · rw [decide_eq_false hb] at hsm
    go_enter Tryz.func12, Tryz.ntmps12
    go_wp2_with fail
    refine hsm.mono ?_
    rintro e w ⟨rfl, rfl⟩
    go_wp2
    go_ret
    exact ⟨rfl, Below.refl _ _⟩
end Go.Proofs.Qxb6500877aGreatDoor
