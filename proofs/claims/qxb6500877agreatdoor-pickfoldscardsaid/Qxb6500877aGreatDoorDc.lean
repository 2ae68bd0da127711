import Derived.Deep.CutBlock
import Derived.Test.Qxb6500877aGreatDoorDb
set_option linter.unusedVariables false
set_option linter.unusedSimpArgs false
namespace Go.Proofs.Qxb6500877aGreatDoor
open Go.RowKit

set_option maxRecDepth 20000 in
set_option maxHeartbeats 16000000 in
theorem law9 {p : Option Addr} {n c : Nat} {L : List OpS} {w : World} (h : OpsIn w p L) (hn : L.length = n) (hok : ∀ o ∈ L, o.ok) (hnc : n ≤ c) (V : Vac w) (TB : TabAt w) (h2 : 2 < w.heap.size) :
    Calls Tryz.prog 9 #[.slice p n c] w fun e w' => e = .returned (.bool true) ∧ Below w.heap.size w w' := by
  have HST : Hid (∀ {w : World} {B mb t k : Nat} {ν : Net} {τ : TSt} {σ : Sg}, Mach w B mb t k ν τ σ → k < 800000 → ∀ (o : OpS), o.ok → Calls Tryz.prog 19 #[.pointer (some ⟨B, 0, none⟩), opV o] w fun e w' => StepZ w w' B mb t k ν τ σ e) := hideIt (fun M hk o ho => step_z M hk o ho)
  have hsm := small_any (p := p) (n := n) (c := c) w
  by_cases hb : n ≤ 65536
  · rw [decide_eq_true hb] at hsm
    go_enter Tryz.func9, Tryz.ntmps9
    go_wp2_with fail
    refine hsm.mono ?_
    rintro e w ⟨rfl, rfl⟩
    go_wp2_with fail
    refine (new_any V TB h2).mono ?_
    rintro e w1 ⟨B, mb, σ0, rfl, M1, hwB, hwm, hb1⟩
    go_wp2_with fail
    go_loopg [20] n (fun gg v wr => ∃ (i t : Nat) (ν : Net) (τ : TSt) (σ : Sg), i + gg = n ∧ v = .int .i64 (i : Int) ∧ Mach wr B mb t (4 * i) ν τ σ ∧ Below w.heap.size w wr)
    case atStart => exact ⟨0, 0, net0, τ0, σ0, by omega, rfl, M1, hb1⟩
    case round =>
      clear M1 hb1
      obtain ⟨i, t, ν, τ, σ, hig, rfl, M, hbw⟩ := hrel
      by_cases hi : i < n
      · have i0 : (0 : Int) ≤ i := by omega
        have i1 : (i : Int) < (n : Int) := by omega
        have hi' : i < L.length := by omega
        obtain ⟨b, off, rfl, hcs⟩ : ∃ b off, p = some ⟨b, off, none⟩ ∧ ∀ j (h : j < L.length), OpCs w b (off + j * 6) L[j] := by
          rcases h with h | h
          · rw [h] at hi'; simp at hi'
          · exact h
        have hC := hcs i hi'
        have ho := hok _ (List.getElem_mem hi')
        generalize L[i] = o at hC ho
        obtain ⟨c0, c1, c2, c3, c4, c5⟩ := hC
        have d0 := cell_later hbw c0
        have d1 := cell_later hbw c1
        have d2 := cell_later hbw c2
        have d3 := cell_later hbw c3
        have d4 := cell_later hbw c4
        have d5 := cell_later hbw c5
        clear c0 c1 c2 c3 c4 c5 hcs
        go_upto_block 1 with fail
        go_cut [] (fun wc => ∃ (t' : Nat) (ν' : Net) (τ' : TSt) (σ' : Sg), Mach wc B mb t' (4 * i + 4) ν' τ' σ' ∧ Below w.heap.size w wc)
        case first =>
          go_upto_region 6 with fail
          go_cut [5] (fun a5 wc => ∃ b5 : Nat, a5 = .pointer (some ⟨b5, 0, none⟩) ∧ OpAt wc b5 o ∧ Mach wc B mb t (4 * i) ν τ σ ∧ Below w.heap.size w wc ∧ (B < b5 ∧ mb < b5))
          case first =>
            go_wp2
            go_meet
            case rel =>
              have b1 := one_alloc wr (.cells #[.int .u8 o.kd, .int .i64 o.a, .int .i64 o.b, .int .i64 o.c, .int .u64 o.x, .int .u64 o.y] 32)
              exact ⟨wr.heap.size, rfl, op_new wr o 32, M.below b1, below_to hbw b1 hbw.size, M.lt, M.mlt⟩
          case rest =>
          clear d0 d1 d2 d3 d4 d5 M hbw
          obtain ⟨b5, rfl, OP, M, hbw, h5⟩ := hcut
          have hOP := OP.lt
          go_upto_region 7 with fail
          go_cut [6, 7] (fun a6 a7 wd => ∃ (B1 mb1 B2 mb2 N : Nat), a6 = .pointer (some ⟨B1, 0, none⟩) ∧ a7 = .pointer (some ⟨B2, 0, none⟩) ∧ TR w.heap.size w wd B mb t (4 * i) ν τ σ B1 mb1 (4 * i) σ B2 mb2 (4 * i) σ b5 o N)
          case first =>
            go_wp2_with fail
            refine (clone_any M (by omega)).mono ?_
            rintro e w1 ⟨B1, mb1, rfl, q1, q2, M1, hb1⟩
            have M' := M.below hb1
            go_wp2_with fail
            refine (clone_any M' (by omega)).mono ?_
            rintro e w2 ⟨B2, mb2, rfl, q3, q4, M2, hb2⟩
            go_wp2
            go_meet
            case rel =>
              have l1 := M1.lt
              have l2 := M1.mlt
              have s1 := hb1.size
              have bw1 := below_to hbw hb1 hbw.size
              exact ⟨B1, mb1, B2, mb2, w2.heap.size, rfl, rfl, M'.below hb2, M1.below hb2, M2, (OP.blk (hb1.block b5 hOP)).blk (hb2.block b5 (by omega)), below_to bw1 hb2 bw1.size, by have := hbw.size; have := hb2.size; omega, ⟨hwB, hwm⟩, by omega, by omega, by have := M2.lt; have := M2.mlt; omega⟩
          case rest =>
          clear OP M hbw h5 hOP
          obtain ⟨B1, mb1, B2, mb2, N, rfl, rfl, H⟩ := hcut
          have hsn := snap_full H.m
          have hz := zv61
          go_upto_region 8 with fail
          go_cut [8] (fun a8 wd => ∃ (b8 base8 : Nat) (S8 : Snap), a8 = .pointer (some ⟨b8, 0, none⟩) ∧ TR w.heap.size w wd B mb t (4 * i) ν τ σ B1 mb1 (4 * i) σ B2 mb2 (4 * i) σ b5 o N ∧ SP wd b8 base8 N t ν τ σ S8)
          case first =>
            go_wp2_with fail
            refine hsn.mono ?_
            rintro e w2 ⟨cs, S8, rfl, hcz, hso, hsm, hsc, hb2⟩
            have hon := one_of hsc
            have hrun := store61_new w2 hcz hon
            have HX := hideIt (And.intro hso (And.intro hsm (And.intro hsc (And.intro hb2 hcz))))
            clear hso hsm hsc hb2 hsn hcz hon
            go_wp2_with (first | (refine wpList_store_row rfl (.tmp 8) (.tmp 29) 61 rfl ⟨w2.heap.size, 0, none⟩ (.agg cs) rfl rfl hrun ?_) | go_in)
            go_meet
            case rel =>
              obtain ⟨hso, hsm, hsc, hb2, hcz⟩ := HX.out
              have b1 := one_alloc w2 (.cells cs 61)
              have bb := hb2.trans (b1.mono hb2.size)
              exact ⟨w2.heap.size, wc.heap.size, S8, rfl, H.keep bb, sp_new hcz hsc hso hsm H.h3.2.2 hb2⟩
          case rest =>
          clear hsn hz H
          obtain ⟨b8, base8, S8, rfl, H, P8⟩ := hcut
          obtain ⟨c, hc, hoc⟩ : ∃ c : Nat, c < 4 ∧ o.a % 4 = (c : Int) := ⟨(o.a % 4).toNat, by omega, by omega⟩
          have hrem : ∀ w, Calls Tryz.prog 26 #[.int .i64 o.a, .int .i64 4] w fun e w' => e = .returned (.int .i64 (c : Int)) ∧ w' = w := fun w => by have := rem4_any o.a w; rwa [hoc] at this
          have hst1 := step_0 H.m1 (by omega) ⟨0, o.a, o.b, o.c, o.x, o.y⟩ ⟨show (0 : Nat) < 256 by decide, ho.x, ho.y⟩ rfl
          unfold opV at hst1
          have OP := H.op
          obtain ⟨g0, g1, g2, g3, g4, g5⟩ := OP
          go_upto_region 9 with fail
          go_cut [9] (fun a9 wd => a9 = .int .i64 (c : Int) ∧ wd = wc)
          case first =>
            go_wp2_with fail
            refine (hrem _).mono ?_
            rintro e w1 ⟨rfl, rfl⟩
            go_wp2
            go_meet
            case rel => exact ⟨rfl, rfl⟩
          case rest =>
          obtain ⟨rfl, hcw⟩ := hcut
          have hcw' := hcw.symm
          clear hcw hrem
          subst hcw'
          go_upto_region 10 with fail
          go_cut [10] (fun a10 wd => ∃ (b10 : Nat), a10 = .pointer (some ⟨b10, 0, none⟩) ∧ TR w.heap.size w wd B mb t (4 * i) ν τ σ B1 mb1 (4 * i + 4) (pickRes σ c).σ B2 mb2 (4 * i) σ b5 o N ∧ SP wd b8 base8 N t ν τ σ S8 ∧ RgAt wd b10 (pickRes σ c).c (c : Int) (pickRes σ c).tk 0 false msg0 none 0 0 ∧ N ≤ b10)
          case first =>
            go_wp2_with fail
            refine hst1.mono ?_
            rintro e w2 ⟨c', hc', ec', hE, D⟩
            obtain rfl : c = c' := by have : o.a % 4 = c' := ec'; omega
            unfold ResE at hE
            subst hE
            have HX := hideIt (And.intro (H.one D) (P8.over D (by have := H.h2; have := H.h3; omega)))
            clear hst1 g0 g1 g2 g3 g4 g5 D H P8
            unfold resV msg0
            generalize hpc : (pickRes σ c).c = pc
            generalize hpt : (pickRes σ c).tk = ptk
            go_wp2
            go_meet
            case rel =>
              obtain ⟨H, P8⟩ := HX.out
              have b1 := one_alloc w2 (.cells #[.int .i64 pc, .int .i64 (c : Int), .int .i64 ptk, .int .u64 0, .bool false, .int .i64 0, .int .i64 0, .int .u32 0, .int .u64 0, .int .u64 0, .int .u64 0, .int .u64 0, .int .u64 0, .int .u64 0, .slice none 0 0] 43)
              exact ⟨w2.heap.size, rfl, H.keep b1, P8.keep b1, by rw [hpc, hpt]; exact rg_new w2 pc c ptk 0 false msg0 none 0 0 43, H.h3.2.2⟩
          case rest =>
          clear hst1 g0 g1 g2 g3 g4 g5 H P8
          obtain ⟨b10, rfl, H, P8, RG, h10⟩ := hcut
          have hl10 := RG.lt
          have hsn := snap_full H.m1
          have hz := zv61
          go_upto_region 11 with fail
          go_cut [11] (fun a11 wd => ∃ (b11 base11 : Nat) (S11 : Snap), a11 = .pointer (some ⟨b11, 0, none⟩) ∧ TR w.heap.size w wd B mb t (4 * i) ν τ σ B1 mb1 (4 * i + 4) (pickRes σ c).σ B2 mb2 (4 * i) σ b5 o N ∧ SP wd b11 base11 N t ν τ (pickRes σ c).σ S11 ∧ SP wd b8 base8 N t ν τ σ S8 ∧ RgAt wd b10 (pickRes σ c).c (c : Int) (pickRes σ c).tk 0 false msg0 none 0 0)
          case first =>
            go_wp2_with fail
            refine hsn.mono ?_
            rintro e w2 ⟨cs, S8, rfl, hcz, hso, hsm, hsc, hb2⟩
            have hon := one_of hsc
            have hrun := store61_new w2 hcz hon
            have HX := hideIt (And.intro hso (And.intro hsm (And.intro hsc (And.intro hb2 hcz))))
            clear hso hsm hsc hb2 hsn hcz hon
            go_wp2_with (first | (refine wpList_store_row rfl (.tmp 11) (.tmp 47) 61 rfl ⟨w2.heap.size, 0, none⟩ (.agg cs) rfl rfl hrun ?_) | go_in)
            go_meet
            case rel =>
              obtain ⟨hso, hsm, hsc, hb2, hcz⟩ := HX.out
              have b1 := one_alloc w2 (.cells cs 61)
              have bb := hb2.trans (b1.mono hb2.size)
              exact ⟨w2.heap.size, wc.heap.size, S8, rfl, H.keep bb, sp_new hcz hsc hso hsm H.h3.2.2 hb2, P8.keep bb, RG.blk (bb.block b10 hl10)⟩
          case rest =>
          clear hsn hz H
          clear P8 RG hl10
          obtain ⟨b11, base11, S11, rfl, H, P11, P8, RG⟩ := hcut
          have hl10 := RG.lt
          have hfold : ∀ w, Calls Tryz.prog 46 #[.int .i64 o.a] w fun e w' => e = .returned (.int .i64 (c : Int)) ∧ w' = w := fun w => by have := foldCore_any o.a w; rwa [hoc] at this
          obtain ⟨g0, g1, g2, g3, g4, g5⟩ := H.op
          have r1 := RG.c1
          go_upto_region 12 with fail
          go_cut [58] (fun a58 wd => a58 = .bool false ∧ wd = wc)
          case first =>
            go_wp2_with fail
            refine (hfold _).mono ?_
            rintro e w1 ⟨rfl, rfl⟩
            go_wp2
            go_meet
            case rel => exact ⟨rfl, rfl⟩
          case rest =>
          clear g0 g1 g2 g3 g4 g5 r1 hfold
          obtain ⟨rfl, hcw⟩ := hcut
          have hcw' := hcw.symm
          clear hcw
          subst hcw'
          have Hd := H.keep (w' := wc.drew) (Below.refl _ _).drew
          have P8d := P8.keep (w' := wc.drew) (Below.refl _ _).drew
          have P11d := P11.keep (w' := wc.drew) (Below.refl _ _).drew
          have hst2 := step_0 Hd.m2 (by omega) ⟨0, (c : Int), 0, 0, 0, 0⟩ ⟨show (0 : Nat) < 256 by decide, show (0 : Nat) < 18446744073709551616 by decide, show (0 : Nat) < 18446744073709551616 by decide⟩ rfl
          unfold opV at hst2
          have h23 : B2 < N ∧ mb2 < N := ⟨H.h3.1, H.h3.2.1⟩
          go_upto_region 14 with fail
          go_cut [65] (fun a65 wd => a65 = .bool false ∧ TR w.heap.size w wd B mb t (4 * i) ν τ σ B1 mb1 (4 * i + 4) (pickRes σ c).σ B2 mb2 (4 * i + 4) (pickRes σ c).σ b5 o N ∧ SP wd b8 base8 N t ν τ σ S8 ∧ SP wd b11 base11 N t ν τ (pickRes σ c).σ S11 ∧ RgAt wd b10 (pickRes σ c).c (c : Int) (pickRes σ c).tk 0 false msg0 none 0 0)
          case first =>
            refine wp_region_held_drew (S := (fun w' => RgAt w' b10 (pickRes σ c).c (c : Int) (pickRes σ c).tk 0 false msg0 none 0 0)) (by kernel_rfl) RG.drew (fun hHeld => ?_)
            refine wpAnyH_take (i := 0) (oi := { dst := some 59, op := Go.Op.load 43 (Go.Operand.tmp 10), type := 43, pos := _, after := #[], guard := none }) (v := resV (pickRes σ c).c (c : Int) (pickRes σ c).tk 0 false msg0 none 0 0) rfl (by kernel_rfl) (by kernel_rfl) (by kernel_rfl) (fun _ _ _ h => h) (Or.inl ⟨by rfl, ?hy1⟩) (by assumption) ?tk1
            case hy1 => (intro w hSw; exact exec_load 43 (.tmp 10) rfl ⟨b10, 0, none⟩ _ rfl (load43 hSw))
            try simp only [Act.put, List.setIfInBounds_toArray, List.set_cons_zero, List.set_cons_succ]
            refine wpAnyH_take (i := 1) (oi := { dst := some 60, op := Go.Op.move (Go.Operand.tmp 7), type := 24, pos := _, after := #[], guard := none }) (v := ?vv2) rfl (by kernel_rfl) (by kernel_rfl) (by kernel_rfl) (fun _ _ _ h => h) (Or.inl ⟨by rfl, ?hy2⟩) (by assumption) ?tk2
            case hy2 => (intro w hSw; (try dsimp only at hSw); go_simp; (try with_reducible rfl))
            try simp only [Act.put, List.setIfInBounds_toArray, List.set_cons_zero, List.set_cons_succ]
            refine wpAnyH_take (i := 2) (oi := { dst := some 61, op := Go.Op.move (Go.Operand.tmp 9), type := 34, pos := _, after := #[], guard := none }) (v := ?vv3) rfl (by kernel_rfl) (by kernel_rfl) (by kernel_rfl) (fun _ _ _ h => h) (Or.inl ⟨by rfl, ?hy3⟩) (by assumption) ?tk3
            case hy3 => (intro w hSw; (try dsimp only at hSw); go_simp; (try with_reducible rfl))
            try simp only [Act.put, List.setIfInBounds_toArray, List.set_cons_zero, List.set_cons_succ]
            refine wpAnyH_take (i := 3) (oi := { dst := some 62, op := Go.Op.build 32 #[(0, Go.Operand.const (Go.Value.int Go.IntKind.u8 0)), (1, Go.Operand.tmp 61)], type := 32, pos := _, after := #[{ on := 2, ground := Go.Ground.data }], guard := none }) (v := ?vv4) rfl (by kernel_rfl) (by kernel_rfl) (by kernel_rfl) (fun _ _ _ h => h) (Or.inl ⟨by rfl, ?hy4⟩) (by assumption) ?tk4
            case hy4 => (intro w hSw; (try dsimp only at hSw); go_simp; (try with_reducible rfl))
            try simp only [Act.put, List.setIfInBounds_toArray, List.set_cons_zero, List.set_cons_succ]
            refine wpAnyH_ready (rs := [4]) (by kernel_rfl) (by simp) ?_
            refine AllReadyH.cons (o := { dst := some 63, op := Go.Op.call { callee := Go.Callee.value (Go.Operand.func 19), args := #[Go.Operand.tmp 60, Go.Operand.tmp 62], argTypes := #[24, 32] }, type := 43, pos := _, after := #[{ on := 1, ground := Go.Ground.data }, { on := 3, ground := Go.Ground.data }], guard := none }) rfl (fun K' hK' => ?_) AllReadyH.nil
            go_simp
            go_at_call 19
            refine hst2.mono ?_
            rintro e w2 ⟨c', hc', ec', hE, D⟩
            obtain rfl : c = c' := by have : (c : Int) % 4 = c' := ec'; omega
            unfold ResE at hE
            subst hE
            have H2 := Hd.two D
            have P82 := P8d.over D h23
            have P112 := P11d.over D h23
            have RG2 := RG.blk (D.f.block b10 hl10 (by omega) (by omega))
            clear D H P8 P11 Hd P8d P11d
            clear hHeld
            refine hK'.out _ _ RG2 (fun hHeld => ?_)
            clear hK' K'
            try simp only [Act.put, List.setIfInBounds_toArray, List.set_cons_zero, List.set_cons_succ]
            refine wpAnyH_ready (rs := [5]) (by kernel_rfl) (by simp) ?_
            refine AllReadyH.cons (o := { dst := some 64, op := Go.Op.call { callee := Go.Callee.value (Go.Operand.func 20), args := #[Go.Operand.tmp 59, Go.Operand.tmp 63], argTypes := #[43, 43] }, type := 4, pos := _, after := #[{ on := 0, ground := Go.Ground.data }, { on := 4, ground := Go.Ground.data }, { on := 4, ground := Go.Ground.chain }], guard := none }) rfl (fun K' hK' => ?_) AllReadyH.nil
            go_simp
            go_at_call 20
            refine (resEq_same _ _ _ _ _).mono ?_
            rintro e w3 ⟨rfl, hb3⟩
            have RG3 := RG2.blk (hb3.block b10 RG2.lt)
            have hb3 : Below w2.heap.size w2 w3 := ⟨hb3.os, hb3.tape, hb3.output, hb3.size, hb3.block⟩
            clear hHeld
            refine hK'.out _ _ RG3 (fun hHeld => ?_)
            clear hK' K'
            try simp only [Act.put, List.setIfInBounds_toArray, List.set_cons_zero, List.set_cons_succ]
            refine wpAnyH_take (i := 6) (oi := { dst := some 65, op := Go.Op.unOp Go.UnOp.not 4 (Go.Operand.tmp 64), type := 4, pos := _, after := #[{ on := 5, ground := Go.Ground.data }], guard := none }) (v := ?vv5) rfl (by kernel_rfl) (by kernel_rfl) (by kernel_rfl) (fun _ _ _ h => h) (Or.inl ⟨by rfl, ?hy5⟩) (by assumption) ?tk5
            case hy5 => (intro w hSw; (try dsimp only at hSw); go_simp; (try with_reducible rfl))
            try simp only [Act.put, List.setIfInBounds_toArray, List.set_cons_zero, List.set_cons_succ]
            refine wpAnyH_done (by kernel_rfl) ?_ _
            go_wp2
            go_meet
            case rel => exact ⟨rfl, H2.keep hb3, P82.keep hb3, P112.keep hb3, RG3⟩
          case rest =>
          clear hst2 Hd P8d P11d hl10 H P8 P11 RG h23
          obtain ⟨rfl, H, P8, P11, RG⟩ := hcut
          have hl10 := RG.lt
          have hsn := snap_full H.m2
          have hz := zv61
          go_upto_region 16 with fail
          go_cut [12] (fun a12 wd => ∃ (b12 base12 : Nat) (S12 : Snap), a12 = .pointer (some ⟨b12, 0, none⟩) ∧ TR w.heap.size w wd B mb t (4 * i) ν τ σ B1 mb1 (4 * i + 4) (pickRes σ c).σ B2 mb2 (4 * i + 4) (pickRes σ c).σ b5 o N ∧ SP wd b12 base12 N t ν τ (pickRes σ c).σ S12 ∧ SP wd b8 base8 N t ν τ σ S8 ∧ SP wd b11 base11 N t ν τ (pickRes σ c).σ S11 ∧ RgAt wd b10 (pickRes σ c).c (c : Int) (pickRes σ c).tk 0 false msg0 none 0 0)
          case first =>
            go_wp2_with fail
            refine hsn.mono ?_
            rintro e w2 ⟨cs, S8, rfl, hcz, hso, hsm, hsc, hb2⟩
            have hon := one_of hsc
            have hrun := store61_new w2 hcz hon
            have HX := hideIt (And.intro hso (And.intro hsm (And.intro hsc (And.intro hb2 hcz))))
            clear hso hsm hsc hb2 hsn hcz hon
            go_wp2_with (first | (refine wpList_store_row rfl (.tmp 12) (.tmp 67) 61 rfl ⟨w2.heap.size, 0, none⟩ (.agg cs) rfl rfl hrun ?_) | go_in)
            go_meet
            case rel =>
              obtain ⟨hso, hsm, hsc, hb2, hcz⟩ := HX.out
              have b1 := one_alloc w2 (.cells cs 61)
              have bb := hb2.trans (b1.mono hb2.size)
              exact ⟨w2.heap.size, wc.heap.size, S8, rfl, H.keep bb, sp_new hcz hsc hso hsm H.h3.2.2 hb2, P8.keep bb, P11.keep bb, RG.blk (bb.block b10 hl10)⟩
          case rest =>
          clear hsn hz H
          clear P8 P11 RG hl10
          obtain ⟨b12, base12, S12, rfl, H, P12, P8, P11, RG⟩ := hcut
          have heq := P12.equal P11
          go_upto_region 17 with fail
          go_cut [69] (fun a69 wd => a69 = .bool false ∧ TR w.heap.size w wd B mb t (4 * i) ν τ σ B1 mb1 (4 * i + 4) (pickRes σ c).σ B2 mb2 (4 * i + 4) (pickRes σ c).σ b5 o N ∧ SP wd b8 base8 N t ν τ σ S8 ∧ SP wd b11 base11 N t ν τ (pickRes σ c).σ S11 ∧ RgAt wd b10 (pickRes σ c).c (c : Int) (pickRes σ c).tk 0 false msg0 none 0 0)
          case first =>
            go_wp2_with fail
            refine heq.mono ?_
            rintro e w3 ⟨rfl, hb3⟩
            go_wp2
            go_meet
            case rel => exact ⟨rfl, H.keep hb3, P8.keep hb3, P11.keep hb3, RG.blk (hb3.block b10 RG.lt)⟩
          case rest =>
          clear heq H P12 P8 P11 RG
          obtain ⟨rfl, H, P8, P11, RG⟩ := hcut
          obtain ⟨k8, ⟨v8, kv, hv⟩, _, _⟩ := P8.st.cores hc
          obtain ⟨p8, cap8, rfl⟩ := hv.slice
          obtain ⟨e1, e2⟩ := snap_core P8.so hc
          obtain ⟨k11, _, _, _⟩ := P11.st.cores hc
          rw [(snap_core P11.so hc).1] at k11
          rw [e1] at k8
          clear hv e1
          have r0 := RG.c0
          have r2 := RG.c2
          have cc0 : (0 : Int) ≤ c := by omega
          have cc1 : (c : Int) < 4 := by omega
          generalize hcu : σ.s.cur c = cu at k8
          generalize hn8 : (S8.q c).length = n8 at kv e2
          by_cases hid : cu = -1 ∧ n8 = 0
          · obtain ⟨rfl, rfl⟩ := hid
            have ep := pick_idle hcu (show σ.s.qn c = 0 by omega)
            rw [ep] at r0 r2
            have P11' : SP wc b11 base11 N t ν τ σ S11 := by rw [ep] at P11; exact P11
            have heq := P11'.equal P8
            have r0' : wc.cell? ⟨b10, 0, none⟩ = some (.int .i64 1) := r0
            have r2' : wc.cell? ⟨b10, 2, none⟩ = some (.int .i64 (-1)) := r2
            clear r0 r2 k11 ep P11 P11' P8 RG e2 hcu hn8
            go_upto_region 19 with fail
            go_cut [13] (fun a13 wd => a13 = .bool true ∧ wd = wc)
            case first =>
              go_wp2
              go_meet
              case rel => exact ⟨rfl, rfl⟩
            case rest =>
            clear k8 kv
            obtain ⟨rfl, hcw⟩ := hcut
            have hcw' := hcw.symm
            clear hcw
            subst hcw'
            go_upto_region 20 with fail
            go_cut [99] (fun a99 wd => a99 = .bool false ∧ TR w.heap.size w wd B mb t (4 * i) ν τ σ B1 mb1 (4 * i + 4) (pickRes σ c).σ B2 mb2 (4 * i + 4) (pickRes σ c).σ b5 o N)
            case first =>
              go_wp2_with fail
              refine heq.mono ?_
              rintro e w3 ⟨rfl, hb3⟩
              go_wp2
              go_meet
              case rel => exact ⟨rfl, H.keep hb3⟩
            case rest =>
            clear heq H r0' r2'
            obtain ⟨rfl, H⟩ := hcut
            go_upto_region 22 with fail
            go_cut [116] (fun a116 wd => a116 = .bool false ∧ TR w.heap.size w wd B mb t (4 * i) ν τ σ B1 mb1 (4 * i + 4) (pickRes σ c).σ B2 mb2 (4 * i + 4) (pickRes σ c).σ b5 o N)
            case first =>
              refine wp_region_held_drew (S := (fun _ => True)) (by kernel_rfl) trivial (fun hHeld => ?_)
              refine wpAnyH_take (i := 0) (oi := { dst := some 100, op := Go.Op.move (Go.Operand.tmp 13), type := 4, pos := _, after := #[], guard := none }) (v := ?vv6) rfl (by kernel_rfl) (by kernel_rfl) (by kernel_rfl) (fun _ _ _ h => h) (Or.inl ⟨by rfl, ?hy6⟩) (by assumption) ?tk6
              case hy6 => (intro w hSw; (try dsimp only at hSw); go_simp; (try with_reducible rfl))
              try simp only [Act.put, List.setIfInBounds_toArray, List.set_cons_zero, List.set_cons_succ]
              refine wpAnyH_take (i := 1) (oi := { dst := some 101, op := Go.Op.unOp Go.UnOp.not 4 (Go.Operand.tmp 100), type := 4, pos := _, after := #[{ on := 0, ground := Go.Ground.data }], guard := none }) (v := ?vv7) rfl (by kernel_rfl) (by kernel_rfl) (by kernel_rfl) (fun _ _ _ h => h) (Or.inl ⟨by rfl, ?hy7⟩) (by assumption) ?tk7
              case hy7 => (intro w hSw; (try dsimp only at hSw); go_simp; (try with_reducible rfl))
              try simp only [Act.put, List.setIfInBounds_toArray, List.set_cons_zero, List.set_cons_succ]
              refine wpAnyH_take (i := 2) (oi := { dst := some 102, op := Go.Op.move (Go.Operand.tmp 101), type := 4, pos := _, after := #[{ on := 1, ground := Go.Ground.data }], guard := none }) (v := ?vv8) rfl (by kernel_rfl) (by kernel_rfl) (by kernel_rfl) (fun _ _ _ h => h) (Or.inl ⟨by rfl, ?hy8⟩) (by assumption) ?tk8
              case hy8 => (intro w hSw; (try dsimp only at hSw); go_simp; (try with_reducible rfl))
              try simp only [Act.put, List.setIfInBounds_toArray, List.set_cons_zero, List.set_cons_succ]
              refine wpAnyH_take (i := 3) (oi := { dst := some 103, op := Go.Op.fieldAddr 43 (Go.Operand.tmp 10) 0, type := 0, pos := _, after := #[{ on := 2, ground := Go.Ground.guard }], guard := some (2, true) }) (v := undef) rfl (by kernel_rfl) (by kernel_rfl) (by kernel_rfl) (fun _ _ _ h => h) (Or.inr ⟨by rfl, rfl⟩) (by assumption) ?tk9
              try simp only [Act.put, List.setIfInBounds_toArray, List.set_cons_zero, List.set_cons_succ]
              refine wpAnyH_take (i := 4) (oi := { dst := some 104, op := Go.Op.load 33 (Go.Operand.tmp 103), type := 33, pos := _, after := #[{ on := 3, ground := Go.Ground.data }, { on := 2, ground := Go.Ground.guard }], guard := some (2, true) }) (v := undef) rfl (by kernel_rfl) (by kernel_rfl) (by kernel_rfl) (fun _ _ _ h => h) (Or.inr ⟨by rfl, rfl⟩) (by assumption) ?tk10
              try simp only [Act.put, List.setIfInBounds_toArray, List.set_cons_zero, List.set_cons_succ]
              refine wpAnyH_take (i := 5) (oi := { dst := some 105, op := Go.Op.binOp Go.BinOp.neq 33 (Go.Operand.tmp 104) (Go.Operand.const (Go.Value.int Go.IntKind.i64 0)) 33, type := 4, pos := _, after := #[{ on := 4, ground := Go.Ground.data }, { on := 2, ground := Go.Ground.guard }], guard := some (2, true) }) (v := undef) rfl (by kernel_rfl) (by kernel_rfl) (by kernel_rfl) (fun _ _ _ h => h) (Or.inr ⟨by rfl, rfl⟩) (by assumption) ?tk11
              try simp only [Act.put, List.setIfInBounds_toArray, List.set_cons_zero, List.set_cons_succ]
              refine wpAnyH_take (i := 6) (oi := { dst := some 106, op := Go.Op.move (Go.Operand.tmp 105), type := 4, pos := _, after := #[{ on := 5, ground := Go.Ground.data }, { on := 2, ground := Go.Ground.chain }, { on := 2, ground := Go.Ground.guard }], guard := some (2, true) }) (v := undef) rfl (by kernel_rfl) (by kernel_rfl) (by kernel_rfl) (fun _ _ _ h => h) (Or.inr ⟨by rfl, rfl⟩) (by assumption) ?tk12
              try simp only [Act.put, List.setIfInBounds_toArray, List.set_cons_zero, List.set_cons_succ]
              refine wpAnyH_take (i := 7) (oi := { dst := some 107, op := Go.Op.move (Go.Operand.tmp 9), type := 34, pos := _, after := #[{ on := 6, ground := Go.Ground.guard }], guard := some (6, false) }) (v := undef) rfl (by kernel_rfl) (by kernel_rfl) (by kernel_rfl) (fun _ _ _ h => h) (Or.inr ⟨by rfl, rfl⟩) (by assumption) ?tk13
              try simp only [Act.put, List.setIfInBounds_toArray, List.set_cons_zero, List.set_cons_succ]
              refine wpAnyH_take (i := 8) (oi := { dst := some 108, op := Go.Op.fieldAddr 61 (Go.Operand.tmp 11) 2, type := 0, pos := _, after := #[{ on := 6, ground := Go.Ground.guard }], guard := some (6, false) }) (v := undef) rfl (by kernel_rfl) (by kernel_rfl) (by kernel_rfl) (fun _ _ _ h => h) (Or.inr ⟨by rfl, rfl⟩) (by assumption) ?tk14
              try simp only [Act.put, List.setIfInBounds_toArray, List.set_cons_zero, List.set_cons_succ]
              refine wpAnyH_take (i := 9) (oi := { dst := some 109, op := Go.Op.indexAddr 55 (Go.Operand.tmp 108) (Go.Operand.tmp 107), type := 0, pos := _, after := #[{ on := 8, ground := Go.Ground.data }, { on := 7, ground := Go.Ground.data }, { on := 6, ground := Go.Ground.guard }], guard := some (6, false) }) (v := undef) rfl (by kernel_rfl) (by kernel_rfl) (by kernel_rfl) (fun _ _ _ h => h) (Or.inr ⟨by rfl, rfl⟩) (by assumption) ?tk15
              try simp only [Act.put, List.setIfInBounds_toArray, List.set_cons_zero, List.set_cons_succ]
              refine wpAnyH_take (i := 10) (oi := { dst := some 110, op := Go.Op.fieldAddr 54 (Go.Operand.tmp 109) 0, type := 0, pos := _, after := #[{ on := 9, ground := Go.Ground.data }, { on := 6, ground := Go.Ground.guard }], guard := some (6, false) }) (v := undef) rfl (by kernel_rfl) (by kernel_rfl) (by kernel_rfl) (fun _ _ _ h => h) (Or.inr ⟨by rfl, rfl⟩) (by assumption) ?tk16
              try simp only [Act.put, List.setIfInBounds_toArray, List.set_cons_zero, List.set_cons_succ]
              refine wpAnyH_take (i := 11) (oi := { dst := some 111, op := Go.Op.load 35 (Go.Operand.tmp 110), type := 35, pos := _, after := #[{ on := 10, ground := Go.Ground.data }, { on := 6, ground := Go.Ground.guard }], guard := some (6, false) }) (v := undef) rfl (by kernel_rfl) (by kernel_rfl) (by kernel_rfl) (fun _ _ _ h => h) (Or.inr ⟨by rfl, rfl⟩) (by assumption) ?tk17
              try simp only [Act.put, List.setIfInBounds_toArray, List.set_cons_zero, List.set_cons_succ]
              refine wpAnyH_take (i := 12) (oi := { dst := some 112, op := Go.Op.fieldAddr 43 (Go.Operand.tmp 10) 2, type := 0, pos := _, after := #[{ on := 6, ground := Go.Ground.guard }], guard := some (6, false) }) (v := undef) rfl (by kernel_rfl) (by kernel_rfl) (by kernel_rfl) (fun _ _ _ h => h) (Or.inr ⟨by rfl, rfl⟩) (by assumption) ?tk18
              try simp only [Act.put, List.setIfInBounds_toArray, List.set_cons_zero, List.set_cons_succ]
              refine wpAnyH_take (i := 13) (oi := { dst := some 113, op := Go.Op.load 35 (Go.Operand.tmp 112), type := 35, pos := _, after := #[{ on := 12, ground := Go.Ground.data }, { on := 6, ground := Go.Ground.guard }], guard := some (6, false) }) (v := undef) rfl (by kernel_rfl) (by kernel_rfl) (by kernel_rfl) (fun _ _ _ h => h) (Or.inr ⟨by rfl, rfl⟩) (by assumption) ?tk19
              try simp only [Act.put, List.setIfInBounds_toArray, List.set_cons_zero, List.set_cons_succ]
              refine wpAnyH_take (i := 14) (oi := { dst := some 114, op := Go.Op.binOp Go.BinOp.neq 35 (Go.Operand.tmp 111) (Go.Operand.tmp 113) 35, type := 4, pos := _, after := #[{ on := 11, ground := Go.Ground.data }, { on := 13, ground := Go.Ground.data }, { on := 6, ground := Go.Ground.guard }], guard := some (6, false) }) (v := undef) rfl (by kernel_rfl) (by kernel_rfl) (by kernel_rfl) (fun _ _ _ h => h) (Or.inr ⟨by rfl, rfl⟩) (by assumption) ?tk20
              try simp only [Act.put, List.setIfInBounds_toArray, List.set_cons_zero, List.set_cons_succ]
              refine wpAnyH_take (i := 15) (oi := { dst := some 115, op := Go.Op.pick (Go.Operand.tmp 106) (Go.Operand.const (Go.Value.bool true)) (Go.Operand.tmp 114), type := 4, pos := _, after := #[{ on := 6, ground := Go.Ground.data }, { on := 14, ground := Go.Ground.data }, { on := 2, ground := Go.Ground.guard }], guard := some (2, true) }) (v := undef) rfl (by kernel_rfl) (by kernel_rfl) (by kernel_rfl) (fun _ _ _ h => h) (Or.inr ⟨by rfl, rfl⟩) (by assumption) ?tk21
              try simp only [Act.put, List.setIfInBounds_toArray, List.set_cons_zero, List.set_cons_succ]
              refine wpAnyH_take (i := 16) (oi := { dst := some 116, op := Go.Op.pick (Go.Operand.tmp 102) (Go.Operand.tmp 115) (Go.Operand.const (Go.Value.bool false)), type := 4, pos := _, after := #[{ on := 2, ground := Go.Ground.data }, { on := 15, ground := Go.Ground.data }], guard := none }) (v := ?vv22) rfl (by kernel_rfl) (by kernel_rfl) (by kernel_rfl) (fun _ _ _ h => h) (Or.inl ⟨by rfl, ?hy22⟩) (by assumption) ?tk22
              case hy22 => (intro w hSw; (try dsimp only at hSw); go_simp; (try with_reducible rfl))
              try simp only [Act.put, List.setIfInBounds_toArray, List.set_cons_zero, List.set_cons_succ]
              refine wpAnyH_done (by kernel_rfl) ?_ _
              go_wp2
              go_meet
              case rel => exact ⟨rfl, H.keep (Below.refl _ _).drew⟩
            case rest =>
            clear H
            obtain ⟨rfl, H⟩ := hcut
            have hst := HST.out H.m (by omega) o ho
            unfold opV at hst
            obtain ⟨g0, g1, g2, g3, g4, g5⟩ := H.op
            go_upto_region 24 with fail
            go_wp2_with fail
            refine hst.mono ?_
            rintro e w2 ⟨c', co, tk, tm, hm, mm, pp, nn, l, t', ν', τ', σ', rfl, hF, D, hZ⟩
            go_wp2
            go_meet
            case rel => exact ⟨t', ν', τ', σ', D.m, below_done H.b D H.s H.h0.1 H.h0.2⟩
          · have hbz : σ.s.cur c ≠ -1 ∨ 0 < σ.s.qn c := by
              by_cases hq : cu = -1
              · right; omega
              · left; rw [hcu]; exact hq
            obtain ⟨ep1, ep2⟩ := pick_busy hbz
            rw [ep1] at r0
            rw [ep2] at k11
            generalize hpt : (pickRes σ c).tk = pt at r2 k11
            clear P11 P8 RG e2 hcu hn8 hbz ep1 ep2 hpt
            go_upto_region 19 with fail
            go_cut [13] (fun a13 wd => a13 = .bool false ∧ wd = wc)
            case first =>
              by_cases hq : cu = -1
              · subst hq
                have q2 : ((n8 : Int) == 0) = false := by simp; omega
                go_wp2
                go_meet
                case rel => exact ⟨rfl, rfl⟩
              · have q1 : (cu == -1) = false := by simpa using hq
                clear hid
                go_wp2
                go_meet
                case rel => exact ⟨rfl, rfl⟩
            case rest =>
            clear k8 kv hid
            obtain ⟨rfl, hcw⟩ := hcut
            have hcw' := hcw.symm
            clear hcw
            subst hcw'
            go_upto_region 20 with fail
            go_cut [99] (fun a99 wd => a99 = .bool false ∧ wd = wc)
            case first =>
              go_wp2
              go_meet
              case rel => exact ⟨rfl, rfl⟩
            case rest =>
            obtain ⟨rfl, hcw⟩ := hcut
            have hcw' := hcw.symm
            clear hcw
            subst hcw'
            go_upto_region 22 with fail
            go_cut [116] (fun a116 wd => a116 = .bool false ∧ TR w.heap.size w wd B mb t (4 * i) ν τ σ B1 mb1 (4 * i + 4) (pickRes σ c).σ B2 mb2 (4 * i + 4) (pickRes σ c).σ b5 o N)
            case first =>
              refine wp_region_held_drew (S := (fun w' => w'.cell? ⟨b10, 0, none⟩ = some (.int .i64 0) ∧ w'.cell? ⟨b10, 2, none⟩ = some (.int .i64 pt) ∧ w'.cell? ⟨b11, 49 + c * 10, none⟩ = some (.int .i64 pt))) (by kernel_rfl) ⟨r0, r2, k11⟩ (fun hHeld => ?_)
              refine wpAnyH_take (i := 0) (oi := { dst := some 100, op := Go.Op.move (Go.Operand.tmp 13), type := 4, pos := _, after := #[], guard := none }) (v := ?vv23) rfl (by kernel_rfl) (by kernel_rfl) (by kernel_rfl) (fun _ _ _ h => h) (Or.inl ⟨by rfl, ?hy23⟩) (by assumption) ?tk23
              case hy23 => (intro w hSw; (try dsimp only at hSw); go_simp; (try with_reducible rfl))
              try simp only [Act.put, List.setIfInBounds_toArray, List.set_cons_zero, List.set_cons_succ]
              refine wpAnyH_take (i := 1) (oi := { dst := some 101, op := Go.Op.unOp Go.UnOp.not 4 (Go.Operand.tmp 100), type := 4, pos := _, after := #[{ on := 0, ground := Go.Ground.data }], guard := none }) (v := ?vv24) rfl (by kernel_rfl) (by kernel_rfl) (by kernel_rfl) (fun _ _ _ h => h) (Or.inl ⟨by rfl, ?hy24⟩) (by assumption) ?tk24
              case hy24 => (intro w hSw; (try dsimp only at hSw); go_simp; (try with_reducible rfl))
              try simp only [Act.put, List.setIfInBounds_toArray, List.set_cons_zero, List.set_cons_succ]
              refine wpAnyH_take (i := 2) (oi := { dst := some 102, op := Go.Op.move (Go.Operand.tmp 101), type := 4, pos := _, after := #[{ on := 1, ground := Go.Ground.data }], guard := none }) (v := ?vv25) rfl (by kernel_rfl) (by kernel_rfl) (by kernel_rfl) (fun _ _ _ h => h) (Or.inl ⟨by rfl, ?hy25⟩) (by assumption) ?tk25
              case hy25 => (intro w hSw; (try dsimp only at hSw); go_simp; (try with_reducible rfl))
              try simp only [Act.put, List.setIfInBounds_toArray, List.set_cons_zero, List.set_cons_succ]
              refine wpAnyH_take (i := 3) (oi := { dst := some 103, op := Go.Op.fieldAddr 43 (Go.Operand.tmp 10) 0, type := 0, pos := _, after := #[{ on := 2, ground := Go.Ground.guard }], guard := some (2, true) }) (v := ?vv26) rfl (by kernel_rfl) (by kernel_rfl) (by kernel_rfl) (fun _ _ _ h => h) (Or.inl ⟨by rfl, ?hy26⟩) (by assumption) ?tk26
              case hy26 => (intro w hSw; (try dsimp only at hSw); go_simp; (try with_reducible rfl))
              try simp only [Act.put, List.setIfInBounds_toArray, List.set_cons_zero, List.set_cons_succ]
              refine wpAnyH_take (i := 4) (oi := { dst := some 104, op := Go.Op.load 33 (Go.Operand.tmp 103), type := 33, pos := _, after := #[{ on := 3, ground := Go.Ground.data }, { on := 2, ground := Go.Ground.guard }], guard := some (2, true) }) (v := ?vv27) rfl (by kernel_rfl) (by kernel_rfl) (by kernel_rfl) (fun _ _ _ h => h) (Or.inl ⟨by rfl, ?hy27⟩) (by assumption) ?tk27
              case hy27 => (intro w hSw; (try dsimp only at hSw); go_simp; (try with_reducible rfl))
              try simp only [Act.put, List.setIfInBounds_toArray, List.set_cons_zero, List.set_cons_succ]
              refine wpAnyH_take (i := 5) (oi := { dst := some 105, op := Go.Op.binOp Go.BinOp.neq 33 (Go.Operand.tmp 104) (Go.Operand.const (Go.Value.int Go.IntKind.i64 0)) 33, type := 4, pos := _, after := #[{ on := 4, ground := Go.Ground.data }, { on := 2, ground := Go.Ground.guard }], guard := some (2, true) }) (v := ?vv28) rfl (by kernel_rfl) (by kernel_rfl) (by kernel_rfl) (fun _ _ _ h => h) (Or.inl ⟨by rfl, ?hy28⟩) (by assumption) ?tk28
              case hy28 => (intro w hSw; (try dsimp only at hSw); go_simp; (try with_reducible rfl))
              try simp only [Act.put, List.setIfInBounds_toArray, List.set_cons_zero, List.set_cons_succ]
              refine wpAnyH_take (i := 6) (oi := { dst := some 106, op := Go.Op.move (Go.Operand.tmp 105), type := 4, pos := _, after := #[{ on := 5, ground := Go.Ground.data }, { on := 2, ground := Go.Ground.chain }, { on := 2, ground := Go.Ground.guard }], guard := some (2, true) }) (v := ?vv29) rfl (by kernel_rfl) (by kernel_rfl) (by kernel_rfl) (fun _ _ _ h => h) (Or.inl ⟨by rfl, ?hy29⟩) (by assumption) ?tk29
              case hy29 => (intro w hSw; (try dsimp only at hSw); go_simp; (try with_reducible rfl))
              try simp only [Act.put, List.setIfInBounds_toArray, List.set_cons_zero, List.set_cons_succ]
              refine wpAnyH_take (i := 7) (oi := { dst := some 107, op := Go.Op.move (Go.Operand.tmp 9), type := 34, pos := _, after := #[{ on := 6, ground := Go.Ground.guard }], guard := some (6, false) }) (v := ?vv30) rfl (by kernel_rfl) (by kernel_rfl) (by kernel_rfl) (fun _ _ _ h => h) (Or.inl ⟨by rfl, ?hy30⟩) (by assumption) ?tk30
              case hy30 => (intro w hSw; (try dsimp only at hSw); go_simp; (try with_reducible rfl))
              try simp only [Act.put, List.setIfInBounds_toArray, List.set_cons_zero, List.set_cons_succ]
              refine wpAnyH_take (i := 8) (oi := { dst := some 108, op := Go.Op.fieldAddr 61 (Go.Operand.tmp 11) 2, type := 0, pos := _, after := #[{ on := 6, ground := Go.Ground.guard }], guard := some (6, false) }) (v := ?vv31) rfl (by kernel_rfl) (by kernel_rfl) (by kernel_rfl) (fun _ _ _ h => h) (Or.inl ⟨by rfl, ?hy31⟩) (by assumption) ?tk31
              case hy31 => (intro w hSw; (try dsimp only at hSw); go_simp; (try with_reducible rfl))
              try simp only [Act.put, List.setIfInBounds_toArray, List.set_cons_zero, List.set_cons_succ]
              refine wpAnyH_take (i := 9) (oi := { dst := some 109, op := Go.Op.indexAddr 55 (Go.Operand.tmp 108) (Go.Operand.tmp 107), type := 0, pos := _, after := #[{ on := 8, ground := Go.Ground.data }, { on := 7, ground := Go.Ground.data }, { on := 6, ground := Go.Ground.guard }], guard := some (6, false) }) (v := ?vv32) rfl (by kernel_rfl) (by kernel_rfl) (by kernel_rfl) (fun _ _ _ h => h) (Or.inl ⟨by rfl, ?hy32⟩) (by assumption) ?tk32
              case hy32 => (intro w hSw; (try dsimp only at hSw); go_simp; (try with_reducible rfl))
              try simp only [Act.put, List.setIfInBounds_toArray, List.set_cons_zero, List.set_cons_succ]
              refine wpAnyH_take (i := 10) (oi := { dst := some 110, op := Go.Op.fieldAddr 54 (Go.Operand.tmp 109) 0, type := 0, pos := _, after := #[{ on := 9, ground := Go.Ground.data }, { on := 6, ground := Go.Ground.guard }], guard := some (6, false) }) (v := ?vv33) rfl (by kernel_rfl) (by kernel_rfl) (by kernel_rfl) (fun _ _ _ h => h) (Or.inl ⟨by rfl, ?hy33⟩) (by assumption) ?tk33
              case hy33 => (intro w hSw; (try dsimp only at hSw); go_simp; (try with_reducible rfl))
              try simp only [Act.put, List.setIfInBounds_toArray, List.set_cons_zero, List.set_cons_succ]
              refine wpAnyH_take (i := 11) (oi := { dst := some 111, op := Go.Op.load 35 (Go.Operand.tmp 110), type := 35, pos := _, after := #[{ on := 10, ground := Go.Ground.data }, { on := 6, ground := Go.Ground.guard }], guard := some (6, false) }) (v := ?vv34) rfl (by kernel_rfl) (by kernel_rfl) (by kernel_rfl) (fun _ _ _ h => h) (Or.inl ⟨by rfl, ?hy34⟩) (by assumption) ?tk34
              case hy34 => (intro w hSw; (try dsimp only at hSw); go_simp; (try with_reducible rfl))
              try simp only [Act.put, List.setIfInBounds_toArray, List.set_cons_zero, List.set_cons_succ]
              refine wpAnyH_take (i := 12) (oi := { dst := some 112, op := Go.Op.fieldAddr 43 (Go.Operand.tmp 10) 2, type := 0, pos := _, after := #[{ on := 6, ground := Go.Ground.guard }], guard := some (6, false) }) (v := ?vv35) rfl (by kernel_rfl) (by kernel_rfl) (by kernel_rfl) (fun _ _ _ h => h) (Or.inl ⟨by rfl, ?hy35⟩) (by assumption) ?tk35
              case hy35 => (intro w hSw; (try dsimp only at hSw); go_simp; (try with_reducible rfl))
              try simp only [Act.put, List.setIfInBounds_toArray, List.set_cons_zero, List.set_cons_succ]
              refine wpAnyH_take (i := 13) (oi := { dst := some 113, op := Go.Op.load 35 (Go.Operand.tmp 112), type := 35, pos := _, after := #[{ on := 12, ground := Go.Ground.data }, { on := 6, ground := Go.Ground.guard }], guard := some (6, false) }) (v := ?vv36) rfl (by kernel_rfl) (by kernel_rfl) (by kernel_rfl) (fun _ _ _ h => h) (Or.inl ⟨by rfl, ?hy36⟩) (by assumption) ?tk36
              case hy36 => (intro w hSw; (try dsimp only at hSw); go_simp; (try with_reducible rfl))
              try simp only [Act.put, List.setIfInBounds_toArray, List.set_cons_zero, List.set_cons_succ]
              refine wpAnyH_take (i := 14) (oi := { dst := some 114, op := Go.Op.binOp Go.BinOp.neq 35 (Go.Operand.tmp 111) (Go.Operand.tmp 113) 35, type := 4, pos := _, after := #[{ on := 11, ground := Go.Ground.data }, { on := 13, ground := Go.Ground.data }, { on := 6, ground := Go.Ground.guard }], guard := some (6, false) }) (v := ?vv37) rfl (by kernel_rfl) (by kernel_rfl) (by kernel_rfl) (fun _ _ _ h => h) (Or.inl ⟨by rfl, ?hy37⟩) (by assumption) ?tk37
              case hy37 => (intro w hSw; (try dsimp only at hSw); go_simp; (try with_reducible rfl))
              try simp only [Act.put, List.setIfInBounds_toArray, List.set_cons_zero, List.set_cons_succ]
              refine wpAnyH_take (i := 15) (oi := { dst := some 115, op := Go.Op.pick (Go.Operand.tmp 106) (Go.Operand.const (Go.Value.bool true)) (Go.Operand.tmp 114), type := 4, pos := _, after := #[{ on := 6, ground := Go.Ground.data }, { on := 14, ground := Go.Ground.data }, { on := 2, ground := Go.Ground.guard }], guard := some (2, true) }) (v := ?vv38) rfl (by kernel_rfl) (by kernel_rfl) (by kernel_rfl) (fun _ _ _ h => h) (Or.inl ⟨by rfl, ?hy38⟩) (by assumption) ?tk38
              case hy38 => (intro w hSw; (try dsimp only at hSw); go_simp; (try with_reducible rfl))
              try simp only [Act.put, List.setIfInBounds_toArray, List.set_cons_zero, List.set_cons_succ]
              refine wpAnyH_take (i := 16) (oi := { dst := some 116, op := Go.Op.pick (Go.Operand.tmp 102) (Go.Operand.tmp 115) (Go.Operand.const (Go.Value.bool false)), type := 4, pos := _, after := #[{ on := 2, ground := Go.Ground.data }, { on := 15, ground := Go.Ground.data }], guard := none }) (v := ?vv39) rfl (by kernel_rfl) (by kernel_rfl) (by kernel_rfl) (fun _ _ _ h => h) (Or.inl ⟨by rfl, ?hy39⟩) (by assumption) ?tk39
              case hy39 => (intro w hSw; (try dsimp only at hSw); go_simp; (try with_reducible rfl))
              try simp only [Act.put, List.setIfInBounds_toArray, List.set_cons_zero, List.set_cons_succ]
              refine wpAnyH_done (by kernel_rfl) ?_ _
              go_wp2
              go_meet
              case rel => exact ⟨rfl, H.keep (Below.refl _ _).drew⟩
            case rest =>
            clear H r0 r2 k11
            obtain ⟨rfl, H⟩ := hcut
            have hst := HST.out H.m (by omega) o ho
            unfold opV at hst
            obtain ⟨g0, g1, g2, g3, g4, g5⟩ := H.op
            go_upto_region 24 with fail
            go_wp2_with fail
            refine hst.mono ?_
            rintro e w2 ⟨c', co, tk, tm, hm, mm, pp, nn, l, t', ν', τ', σ', rfl, hF, D, hZ⟩
            go_wp2
            go_meet
            case rel => exact ⟨t', ν', τ', σ', D.m, below_done H.b D H.s H.h0.1 H.h0.2⟩
        case rest =>
          obtain ⟨t', ν', τ', σ', M', hb'⟩ := hcut
          go_wp2
          go_roundg (n - (i + 1))
          case measure => omega
          case rel => exact ⟨i + 1, t', ν', τ', σ', by omega, by go_num, M', hb'⟩
      · have e : i = n := by omega
        subst e
        go_wp2
        go_ret
        exact ⟨rfl, hbw⟩
  · rw [decide_eq_false hb] at hsm
    go_enter Tryz.func9, Tryz.ntmps9
    go_wp2_with fail
    refine hsm.mono ?_
    rintro e w ⟨rfl, rfl⟩
    go_wp2
    go_ret
    exact ⟨rfl, Below.refl _ _⟩
end Go.Proofs.Qxb6500877aGreatDoor
