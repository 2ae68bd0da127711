import Derived.Deep.CutBlock
import Derived.OwnWalk
import Derived.Maps.AppendAt
import Derived.Test.Qxb6500877aGreatDoorTy11
import Derived.Test.Qxb6500877aGreatDoorTy3
import Derived.Test.Qxb6500877aGreatDoorTy9
import Derived.Test.Qxb6500877aGreatDoorTy6
import Derived.Test.Qxb6500877aGreatDoorZk
import Derived.Test.Qxb6500877aGreatDoorZm
import Derived.Test.Qxb6500877aGreatDoorOe
import Derived.Test.Qxb6500877aGreatDoorDa
set_option linter.unusedVariables false
set_option linter.unusedSimpArgs false
namespace Go.Proofs.Qxb6500877aGreatDoor
open Go.RowKit

set_option maxRecDepth 20000 in
set_option maxHeartbeats 32000000 in
theorem law15 {p : Option Addr} {n c : Nat} {L : List OpS} {w : World} (h : OpsIn w p L) (hn : L.length = n) (hok : ∀ o ∈ L, o.ok) (hnc : n ≤ c) (V : Vac w) (TB : TabAt w) (h2 : 2 < w.heap.size) :
    Calls Tryz.prog 15 #[.slice p n c] w fun e w' => e = .returned (.bool true) ∧ Below w.heap.size w w' := by
  have HST : Hid (∀ {w : World} {B mb t k : Nat} {ν : Net} {τ : TSt} {σ : Sg}, Mach w B mb t k ν τ σ → k < 800000 → ∀ (o : OpS), o.ok → Calls Tryz.prog 19 #[.pointer (some ⟨B, 0, none⟩), opV o] w fun e w' => ∃ (a : Ans) (p : Option Addr) (n c t' : Nat) (ν' : Net) (τ' : TSt) (σ' : Sg), e = .returned (.agg (resCs a.z a.co a.tk a.tm a.hm a.mm p n c)) ∧ FrAt w' w.heap.size (.slice p n c) a.fs ∧ Done w w' B mb t' (k + 4) ν' τ' σ' ∧ RealS o t ν τ σ a t' ν' τ' σ') := hideIt (fun M hk o ho => step_r M hk o ho)
  have HSW : Hid (∀ {w : World} {B mb t k : Nat} {ν : Net} {τ : TSt} {σ : Sg} {Λ : W.LS}, W.Mach w B mb t k ν τ σ Λ → Λ.l.length < 999999000 → k < 800000 → ∀ (o : OpS), o.ok → Calls Tryz.prog 19 #[.pointer (some ⟨B, 0, none⟩), opV o] w fun e w' => ∃ (a : Ans) (p : Option Addr) (n c t' : Nat) (ν' : Net) (τ' : TSt) (σ' : Sg) (Λ' : W.LS), e = .returned (.agg (resCs a.z a.co a.tk a.tm a.hm a.mm p n c)) ∧ FrAt w' w.heap.size (.slice p n c) a.fs ∧ W.Done w w' B mb t' (k + 4) ν' τ' σ' Λ Λ' ∧ RealS o t ν τ σ a t' ν' τ' σ' ∧ Λ'.l = Λ.l ++ expL t' (σ.s.cur (o.a % 4).toNat) (mvA σ σ' a) (stA σ' a) (fun b => (ν.box b).acc) o a) := hideIt (fun M hl hk o ho => step_w M hl hk o ho)
  have hsm := small_any (p := p) (n := n) (c := c) w
  by_cases hb : n ≤ 65536
  · rw [decide_eq_true hb] at hsm
    have hn9 : (n : Int).tmod 9 = ((n % 9 : Nat) : Int) := by rw [Int.tmod_eq_emod_of_nonneg (by omega)]; rfl
    obtain ⟨n9, HN9⟩ : ∃ n9, Hid (n % 9 = n9) := ⟨_, hideIt rfl⟩
    rw [HN9.out] at hn9
    have h99 : n9 < 9 := by rw [← HN9.out]; omega
    go_enter Tryz.func15, Tryz.ntmps15
    go_wp2_with fail
    refine hsm.mono ?_
    rintro e w ⟨rfl, rfl⟩
    go_wp2_with fail
    refine (newRing_any (m := n9) h99).mono ?_
    rintro e w1 ⟨R, F, rfl, RG, hR, hF, hb1⟩
    have s1 := hb1.size
    have bA := one_alloc w1 (.cells #[.slice none 0 0, .iface 108 (.pointer (some ⟨R, 0, none⟩))] 115)
    have bb1 := below_to hb1 bA s1
    have V1 : Vac (w1.alloc (.cells #[.slice none 0 0, .iface 108 (.pointer (some ⟨R, 0, none⟩))] 115)) := ⟨cell_later bb1 V.v0, cell_later bb1 V.v1, cell_later bb1 V.v2, cell_later bb1 V.v3, cell_later bb1 V.v4⟩
    have T1 : TabAt (w1.alloc (.cells #[.slice none 0 0, .iface 108 (.pointer (some ⟨R, 0, none⟩))] 115)) := TB.below bb1
    have hza : (w1.alloc (.cells #[.slice none 0 0, .iface 108 (.pointer (some ⟨R, 0, none⟩))] 115)).heap.size = w1.heap.size + 1 := by simp
    have hnl := newWith_live (C := w1.heap.size) V1 T1 (by omega)
    have HK1 := hideIt (And.intro RG (And.intro hR (And.intro hF (And.intro hb1 bb1))))
    clear RG hR hF hb1 bA bb1 V1 T1
    go_wp2_with fail
    refine hnl.mono ?_
    rintro e w2 ⟨B, mb, rfl, M1, k1, hwB, hwm, hb2⟩
    obtain ⟨RG, hR, hF, hb1, bb1⟩ := HK1.out
    have s2 := hb2.size
    have bb2 := below_to bb1 hb2 (by omega)
    have V2 : Vac w2 := ⟨cell_later bb2 V.v0, cell_later bb2 V.v1, cell_later bb2 V.v2, cell_later bb2 V.v3, cell_later bb2 V.v4⟩
    have T2 : TabAt w2 := TB.below bb2
    have hnp := new_any3 V2 T2 (by omega)
    have HK2 := hideIt (And.intro M1 (And.intro k1 (And.intro hwB (And.intro hwm hb2))))
    clear M1 k1 hwB hwm hb2 V2 T2 RG hR hF hb1 bb1 bb2 hnl
    go_wp2_with fail
    refine hnp.mono ?_
    rintro e w3 ⟨B2, mb2, rfl, M2, hwB2, hwm2, hb3⟩
    obtain ⟨RG, hR, hF, hb1, bb1⟩ := HK1.out
    obtain ⟨M1, k1, hwB, hwm, hb2⟩ := HK2.out
    have H0 := lt_start RG (by omega) hR hF hb1 M1 k1 hwB hwm hb2 M2 hwB2 hwm2 hb3 h2
    clear RG hR hF hb1 bb1 M1 k1 hwB hwm hb2 M2 hwB2 hwm2 hb3 HK1 HK2 hnp s1 s2 hza
    obtain ⟨T, hT⟩ : ∃ T : TS, T = ⟨w1.heap.size, R, F, max n9 1, w3.heap.size⟩ := ⟨_, rfl⟩
    rw [← hT] at H0
    generalize hC : w1.heap.size = C at *
    have ETC : Hid (T.C = C) := hideIt (by rw [hT])
    have ETR : Hid (T.R = R) := hideIt (by rw [hT])
    have ETN : Hid (T.N = max n9 1) := hideIt (by rw [hT])
    clear hT hC
    go_wp2_with fail
    go_loopg [38] n (fun gg v wr => ∃ (i t : Nat) (ν : Net) (τ : TSt) (σ : Sg) (Λ : W.LS), i + gg = n ∧ v = .int .i64 (i : Int) ∧ LT w wr B mb B2 mb2 T t (4 * i) ν τ σ Λ t (4 * i) ν τ σ ∧ Λ.l.length ≤ 65 * i)
    case atStart => exact ⟨0, 0, net0, τ0, σE, _, by omega, rfl, H0, Nat.le_refl _⟩
    case round =>
      clear H0
      obtain ⟨i, t, ν, τ, σ, Λ, hig, rfl, H, hln⟩ := hrel
      by_cases hi : i < n
      · have i0 : (0 : Int) ≤ i := by omega
        have i1 : (i : Int) < (n : Int) := by omega
        have hi' : i < L.length := by omega
        obtain ⟨b, off, rfl, hcs⟩ : ∃ b off, p = some ⟨b, off, none⟩ ∧ ∀ j (h : j < L.length), OpCs w b (off + j * 6) L[j] := by
          rcases h with h | h
          · rw [h] at hi'; simp at hi'
          · exact h
        have hC := hcs i hi'
        have ho := hok _ (List.getElem_mem hi')
        generalize L[i] = o at hC ho
        obtain ⟨c0, c1, c2, c3, c4, c5⟩ := hC
        have d0 := cell_later H.b c0
        have d1 := cell_later H.b c1
        have d2 := cell_later H.b c2
        have d3 := cell_later H.b c3
        have d4 := cell_later H.b c4
        have d5 := cell_later H.b c5
        clear c0 c1 c2 c3 c4 c5 hcs
        have HKS := hideIt H.p.sch.2
        have hln1 : Λ.l.length < 999999000 := by omega
        go_upto_block 1 with fail
        go_cut [] (fun wc => ∃ (t' : Nat) (ν' : Net) (τ' : TSt) (σ' : Sg) (Λ' : W.LS), LT w wc B mb B2 mb2 T t' (4 * i + 4) ν' τ' σ' Λ' t' (4 * i + 4) ν' τ' σ' ∧ Λ'.l.length ≤ 65 * (i + 1))
        case first =>
          go_upto_region 8 with fail
          go_cut [8] (fun a8 wc => ∃ p8 : Nat, a8 = .pointer (some ⟨p8, 0, none⟩) ∧ OpAt wc p8 o ∧ LT w wc B mb B2 mb2 T t (4 * i) ν τ σ Λ t (4 * i) ν τ σ ∧ Fre B mb B2 mb2 Λ p8)
          case first =>
            go_wp2
            go_meet
            case rel => exact ⟨wr.heap.size, rfl, op_new wr o 32, H.keep (one_alloc _ _), H.fre (Nat.le_refl _)⟩
          case rest =>
          clear d0 d1 d2 d3 d4 d5 H
          obtain ⟨p8, rfl, OP, H, FR8⟩ := hcut
          have hsn := snap_full H.p
          have hz := zv61
          have hp8 := OP.lt
          go_upto_region 9 with fail
          go_cut [9] (fun a9 wd => ∃ q9 : Nat, a9 = .pointer (some ⟨q9, 0, none⟩) ∧ SN wd q9 ν σ ∧ OpAt wd p8 o ∧ LT w wd B mb B2 mb2 T t (4 * i) ν τ σ Λ t (4 * i) ν τ σ ∧ Fre B mb B2 mb2 Λ q9)
          case first =>
            have HO := hideIt OP
            clear OP
            go_wp2_with fail
            refine hsn.mono ?_
            rintro e w2 ⟨cs, S8, rfl, hcz, hso, hsm, hsc, hb2⟩
            have hon := one_of hsc
            have hrun := store61_new w2 hcz hon
            have HX := hideIt (And.intro hso (And.intro hsc (And.intro hb2 hcz)))
            clear hso hsm hsc hb2 hsn hcz hon
            go_wp2_with (first | (refine wpList_store_row rfl (.tmp 9) (.tmp 43) 61 rfl ⟨w2.heap.size, 0, none⟩ (.agg cs) rfl rfl hrun ?_) | go_in)
            go_meet
            case rel =>
              obtain ⟨hso, hsc, hb2, hcz⟩ := HX.out
              have b1 := one_alloc w2 (.cells cs 61)
              have bb := hb2.trans (b1.mono hb2.size)
              exact ⟨w2.heap.size, rfl, sn_new hso hcz hsc, HO.out.blk (bb.block p8 hp8), H.keep bb, (H.keep hb2).fre (Nat.le_refl _)⟩
          case rest =>
          clear hsn hz OP hp8 H
          obtain ⟨q9, rfl, S9, OP, H, FR9⟩ := hcut
          obtain ⟨c4, hc, hoc⟩ : ∃ c4 : Nat, c4 < 4 ∧ o.a % 4 = (c4 : Int) := ⟨(o.a % 4).toNat, by omega, by omega⟩
          have hrem : ∀ w, Calls Tryz.prog 26 #[.int .i64 o.a, .int .i64 4] w fun e w' => e = .returned (.int .i64 (c4 : Int)) ∧ w' = w := fun w => by have := rem4_any o.a w; rwa [hoc] at this
          have hp8 := OP.lt
          have hp9 := S9.lt
          have y0 := S9.cur c4 hc
          obtain ⟨pv, cap, hV, v0, hown, _⟩ := H.col
          rw [ETC.out] at v0
          have i2 : (0 : Int) ≤ c4 := by omega
          have i3 : (c4 : Int) < 4 := by omega
          obtain ⟨ln, HLn⟩ : ∃ ln, Hid (Λ.l.length = ln) := ⟨_, hideIt rfl⟩
          rw [HLn.out] at v0
          have g1 := OP.c1
          have HX := hideIt (And.intro S9 (And.intro OP H))
          have HOC := hideIt hoc
          clear S9 OP H hV hown hoc
          go_upto_region 10 with fail
          go_wp2_with fail
          refine (hrem _).mono ?_
          rintro e w1 ⟨rfl, hw1⟩
          rw [hw1]
          clear hw1 hrem
          go_upto_region 12 with fail
          clear y0 v0 g1
          obtain ⟨S9, OP, H⟩ := HX.out
          have hst := HSW.out H.m (by omega) (by omega) o ho
          unfold opV at hst
          have HOP := hideIt OP
          obtain ⟨g0, g1, g2, g3, g4, g5⟩ := OP
          go_cut [12] (fun a12 wd => ∃ (p12 : Nat) (a : Ans) (p1 : Option Addr) (n1 k1 t' base : Nat) (ν' : Net) (τ' : TSt) (σ' : Sg) (Λ' : W.LS), a12 = .pointer (some ⟨p12, 0, none⟩) ∧ (LT w wd B mb B2 mb2 T t' (4 * i + 4) ν' τ' σ' Λ' t (4 * i) ν τ σ ∧ FrAt wd base (.slice p1 n1 k1) a.fs ∧ SN wd q9 ν σ ∧ RgAt wd p12 a.z a.co a.tk a.tm a.hm a.mm p1 n1 k1 ∧ OpAt wd p8 o) ∧ (Fre B mb B2 mb2 Λ' p8 ∧ Fre B mb B2 mb2 Λ' q9 ∧ Fre B mb B2 mb2 Λ' p12) ∧ Hid (RealS o t ν τ σ a t' ν' τ' σ') ∧ Hid (Λ'.l = Λ.l ++ expL t' (σ.s.cur c4) (mvA σ σ' a) (stA σ' a) (fun b => (ν.box b).acc) o a) ∧ (B2 < base ∧ mb2 < base) ∧ Hid (a.fs.length ≤ 64))
          case first =>
            have HH := hideIt (And.intro S9 H)
            clear S9 H
            go_wp2_with fail
            refine hst.mono ?_
            rintro e w2 ⟨a, p1, n1, k1, t', ν', τ', σ', Λ', rfl, hF, D1, hR, hL⟩
            have HW := hideIt (And.intro hF (And.intro D1 (And.intro hR hL)))
            clear hF D1 hR hL hst g0 g1 g2 g3 g4 g5
            unfold resCs
            go_wp2
            go_meet
            case rel =>
              obtain ⟨hF, D1, hR, hL⟩ := HW.out
              obtain ⟨S9, H⟩ := HH.out
              have h64 := fs_len H.p hR
              obtain ⟨F8', e8⟩ := FR8.one D1 hp8
              obtain ⟨F9', e9⟩ := FR9.one D1 hp9
              have H1 := H.one D1
              have b1 := one_alloc w2 (.cells #[.int .i64 a.z, .int .i64 a.co, .int .i64 a.tk, .int .u64 a.tm, .bool a.hm, .int .i64 a.mm.mf, .int .i64 a.mm.mt, .int .u32 a.mm.md, .int .u64 a.mm.mq, .int .u64 a.mm.ma, .int .u64 a.mm.x0, .int .u64 a.mm.x1, .int .u64 a.mm.x2, .int .u64 a.mm.x3, .slice p1 n1 k1] 43)
              have hs2 := D1.f.size
              refine ⟨w2.heap.size, a, p1, n1, k1, t', wc.heap.size, ν', τ', σ', Λ', rfl, ⟨H1.keep b1, hF.keep b1.size (fun q _ hq => b1.block q hq), (S9.blk e9).blk (b1.block q9 (by omega)), rg_new w2 _ _ _ _ _ _ _ _ _ 43, (HOP.out.blk e8).blk (b1.block p8 (by omega))⟩, ⟨F8', F9', H1.fre (Nat.le_refl _)⟩, hideIt hR, hideIt ?_, ⟨H.p.lt, H.p.mlt⟩, hideIt h64⟩
              rw [hL, HOC.out, Int.toNat_natCast]
          case rest =>
          clear hst g0 g1 g2 g3 g4 g5 HOP S9 H FR8 FR9 hp8 hp9
          obtain ⟨p12, a, p1, n1, k1, t', base, ν', τ', σ', Λ', rfl, ⟨H, hF1, S9, RG, OP⟩, ⟨FR8, FR9, FR12⟩, HR, HL, ⟨hB2, hm2⟩, H64⟩ := hcut
          have hst2 := HST.out (w := World.drew wc) H.p.drew (by omega) o ho
          unfold opV at hst2
          have hp8 := OP.lt
          have hp9 := S9.lt
          have hp12 := RG.lt
          have HHD : Hid (LT w (World.drew wc) B mb B2 mb2 T t' (4 * i + 4) ν' τ' σ' Λ' t (4 * i) ν τ σ) := hideIt H.drew
          have HOP := hideIt OP
          have HRG := hideIt RG
          have HSN := hideIt S9
          have HF1 := hideIt hF1
          obtain ⟨g0, g1, g2, g3, g4, g5⟩ := OP
          obtain ⟨r0, r1, r2, r3, r4, r5, r6, r7, r8, r9, r10, r11, r12, r13, r14⟩ := RG
          clear H hF1 S9
          go_upto_region 13 with fail
          go_cut [64] (fun a64 wd => a64 = .bool false ∧ LT w wd B mb B2 mb2 T t' (4 * i + 4) ν' τ' σ' Λ' t' (4 * i + 4) ν' τ' σ' ∧ FrAt wd base (.slice p1 n1 k1) a.fs ∧ SN wd q9 ν σ ∧ RgAt wd p12 a.z a.co a.tk a.tm a.hm a.mm p1 n1 k1 ∧ OpAt wd p8 o)
          case first =>
            refine wp_region_held_drew (S := (fun w' => (w'.cell? ⟨p12, 0, none⟩ = some (.int .i64 a.z) ∧ w'.cell? ⟨p12, 1, none⟩ = some (.int .i64 a.co) ∧ w'.cell? ⟨p12, 2, none⟩ = some (.int .i64 a.tk) ∧ w'.cell? ⟨p12, 3, none⟩ = some (.int .u64 a.tm) ∧ w'.cell? ⟨p12, 4, none⟩ = some (.bool a.hm) ∧ w'.cell? ⟨p12, 5, none⟩ = some (.int .i64 a.mm.mf) ∧ w'.cell? ⟨p12, 6, none⟩ = some (.int .i64 a.mm.mt) ∧ w'.cell? ⟨p12, 7, none⟩ = some (.int .u32 a.mm.md) ∧ w'.cell? ⟨p12, 8, none⟩ = some (.int .u64 a.mm.mq) ∧ w'.cell? ⟨p12, 9, none⟩ = some (.int .u64 a.mm.ma) ∧ w'.cell? ⟨p12, 10, none⟩ = some (.int .u64 a.mm.x0) ∧ w'.cell? ⟨p12, 11, none⟩ = some (.int .u64 a.mm.x1) ∧ w'.cell? ⟨p12, 12, none⟩ = some (.int .u64 a.mm.x2) ∧ w'.cell? ⟨p12, 13, none⟩ = some (.int .u64 a.mm.x3) ∧ w'.cell? ⟨p12, 14, none⟩ = some (.slice p1 n1 k1)) ∧ (w'.cell? ⟨p8, 0, none⟩ = some (.int .u8 (o.kd : Int)) ∧ w'.cell? ⟨p8, 1, none⟩ = some (.int .i64 o.a) ∧ w'.cell? ⟨p8, 2, none⟩ = some (.int .i64 o.b) ∧ w'.cell? ⟨p8, 3, none⟩ = some (.int .i64 o.c) ∧ w'.cell? ⟨p8, 4, none⟩ = some (.int .u64 (o.x : Int)) ∧ w'.cell? ⟨p8, 5, none⟩ = some (.int .u64 (o.y : Int))))) (by kernel_rfl) ⟨⟨r0, r1, r2, r3, r4, r5, r6, r7, r8, r9, r10, r11, r12, r13, r14⟩, ⟨g0, g1, g2, g3, g4, g5⟩⟩ (fun hHeld => ?_)
            refine wpAnyH_take (i := 0) (oi := { dst := some 59, op := Go.Op.load 43 (Go.Operand.tmp 12), type := 43, pos := _, after := #[], guard := none }) (v := ?vv15001) rfl (by kernel_rfl) (by kernel_rfl) (by kernel_rfl) (fun _ _ _ h => h) (Or.inl ⟨by rfl, ?hy15001⟩) (by assumption) ?tk15001
            case hy15001 => (intro w hSw; (try dsimp only at hSw); go_simp; (try with_reducible rfl))
            try simp only [Act.put, List.setIfInBounds_toArray, List.set_cons_zero, List.set_cons_succ]
            refine wpAnyH_take (i := 1) (oi := { dst := some 60, op := Go.Op.move (Go.Operand.tmp 6), type := 24, pos := _, after := #[], guard := none }) (v := ?vv15002) rfl (by kernel_rfl) (by kernel_rfl) (by kernel_rfl) (fun _ _ _ h => h) (Or.inl ⟨by rfl, ?hy15002⟩) (by assumption) ?tk15002
            case hy15002 => (intro w hSw; (try dsimp only at hSw); go_simp; (try with_reducible rfl))
            try simp only [Act.put, List.setIfInBounds_toArray, List.set_cons_zero, List.set_cons_succ]
            refine wpAnyH_take (i := 2) (oi := { dst := some 61, op := Go.Op.load 32 (Go.Operand.tmp 8), type := 32, pos := _, after := #[], guard := none }) (v := ?vv15003) rfl (by kernel_rfl) (by kernel_rfl) (by kernel_rfl) (fun _ _ _ h => h) (Or.inl ⟨by rfl, ?hy15003⟩) (by assumption) ?tk15003
            case hy15003 => (intro w hSw; (try dsimp only at hSw); go_simp; (try with_reducible rfl))
            try simp only [Act.put, List.setIfInBounds_toArray, List.set_cons_zero, List.set_cons_succ]
            refine wpAnyH_ready (rs := [3]) (by kernel_rfl) (by simp) ?_
            refine AllReadyH.cons (o := { dst := some 62, op := Go.Op.call { callee := Go.Callee.value (Go.Operand.func 19), args := #[Go.Operand.tmp 60, Go.Operand.tmp 61], argTypes := #[24, 32] }, type := 43, pos := _, after := #[{ on := 1, ground := Go.Ground.data }, { on := 2, ground := Go.Ground.data }], guard := none }) rfl (fun K' hK' => ?_) AllReadyH.nil
            go_simp
            go_at_call 19
            refine hst2.mono ?_
            rintro e w2 ⟨a2, p2, n2, k2, t2, ν2, τ2, σ2, rfl, hF2, D2, hR2⟩
            obtain ⟨e1, e2, e3, e4, e5⟩ := real_det HR.out hR2
            subst e1 e2 e3 e4 e5
            have hs2 := D2.f.size
            have kp8 : w2.heap[p8]? = wc.heap[p8]? := D2.f.block p8 hp8 FR8.n.2.2.1 FR8.n.2.2.2
            have kp9 : w2.heap[q9]? = wc.heap[q9]? := D2.f.block q9 hp9 FR9.n.2.2.1 FR9.n.2.2.2
            have kp12 : w2.heap[p12]? = wc.heap[p12]? := D2.f.block p12 hp12 FR12.n.2.2.1 FR12.n.2.2.2
            have H2 := HHD.out.two D2
            have OP2 := HOP.out.blk kp8
            have RG2 := HRG.out.blk kp12
            have SN2 := HSN.out.blk kp9
            have hF1' : FrAt w2 base (.slice p1 n1 k1) a.fs := HF1.out.keep hs2 (fun q h1 h2 => D2.f.block q h2 (by omega) (by omega))
            have hre := resEq_any (z := a.z) (co := a.co) (tk := a.tk) (tm := a.tm) (hm := a.hm) (mm := a.mm) hF1' hF2 (by have := H64.out; omega)
            unfold resCs at hre
            have HD2 := hideIt (And.intro H2 (And.intro hF1' SN2))
            clear D2 hR2 H2 hF2 hF1' SN2 kp9 hst2
            obtain ⟨h0, h1, h2, h3, h4, h5⟩ := OP2
            obtain ⟨s0, s1, s2, s3, s4, s5, s6, s7, s8, s9, s10, s11, s12, s13, s14⟩ := RG2
            clear hHeld
            refine hK'.out _ _ ⟨⟨s0, s1, s2, s3, s4, s5, s6, s7, s8, s9, s10, s11, s12, s13, s14⟩, ⟨h0, h1, h2, h3, h4, h5⟩⟩ (fun hHeld => ?_)
            clear hK' K'
            try simp only [Act.put, List.setIfInBounds_toArray, List.set_cons_zero, List.set_cons_succ]
            refine wpAnyH_ready (rs := [4]) (by kernel_rfl) (by simp) ?_
            refine AllReadyH.cons (o := { dst := some 63, op := Go.Op.call { callee := Go.Callee.value (Go.Operand.func 20), args := #[Go.Operand.tmp 59, Go.Operand.tmp 62], argTypes := #[43, 43] }, type := 4, pos := _, after := #[{ on := 0, ground := Go.Ground.data }, { on := 3, ground := Go.Ground.data }, { on := 3, ground := Go.Ground.chain }], guard := none }) rfl (fun K' hK' => ?_) AllReadyH.nil
            go_simp
            go_at_call 20
            refine hre.mono ?_
            rintro e w4 ⟨rfl, hb4⟩
            obtain ⟨H2, hF1', SN2⟩ := HD2.out
            have hs4 := hb4.size
            have H4 := H2.keep hb4
            have hF4 := hF1'.keep hs4 (fun q h1 h2 => hb4.block q h2)
            have SN4 := SN2.blk (hb4.block q9 SN2.lt)
            have RG4 := (RgAt.mk s0 s1 s2 s3 s4 s5 s6 s7 s8 s9 s10 s11 s12 s13 s14).blk (hb4.block p12 (World.block_lt_of_cell? _ _ s0))
            have OP4 := (OpAt.mk h0 h1 h2 h3 h4 h5).blk (hb4.block p8 (World.block_lt_of_cell? _ _ h0))
            have HQ4 := hideIt (And.intro H4 (And.intro hF4 (And.intro SN4 (And.intro RG4 OP4))))
            clear hb4 hre H4 hF4 SN4 H2 hF1' SN2 HD2
            obtain ⟨j0, j1, j2, j3, j4, j5⟩ := OP4
            obtain ⟨k0, k1, k2, k3, k4, k5, k6, k7, k8, k9, k10, k11, k12, k13, k14⟩ := RG4
            clear hHeld
            refine hK'.out _ _ ⟨⟨k0, k1, k2, k3, k4, k5, k6, k7, k8, k9, k10, k11, k12, k13, k14⟩, ⟨j0, j1, j2, j3, j4, j5⟩⟩ (fun hHeld => ?_)
            clear hK' K'
            try simp only [Act.put, List.setIfInBounds_toArray, List.set_cons_zero, List.set_cons_succ]
            refine wpAnyH_take (i := 5) (oi := { dst := some 64, op := Go.Op.unOp Go.UnOp.not 4 (Go.Operand.tmp 63), type := 4, pos := _, after := #[{ on := 4, ground := Go.Ground.data }], guard := none }) (v := ?vv15004) rfl (by kernel_rfl) (by kernel_rfl) (by kernel_rfl) (fun _ _ _ h => h) (Or.inl ⟨by rfl, ?hy15004⟩) (by assumption) ?tk15004
            case hy15004 => (intro w hSw; (try dsimp only at hSw); go_simp; (try with_reducible rfl))
            try simp only [Act.put, List.setIfInBounds_toArray, List.set_cons_zero, List.set_cons_succ]
            refine wpAnyH_done (by kernel_rfl) ?_ _
            go_wp2
            go_meet
            case rel => exact ⟨rfl, HQ4.out⟩
          case rest =>
          clear g0 g1 g2 g3 g4 g5 r0 r1 r2 r3 r4 r5 r6 r7 r8 r9 r10 r11 r12 r13 r14 HHD HOP HRG HSN HF1 hst2 hp8 hp9 hp12
          obtain ⟨rfl, H, hF1, S9, RG, OP⟩ := hcut
          have r2 := RG.c2
          go_upto_if 67 with fail
          go_cut [13, 14] (fun a13 a14 wd => a13 = .bool (mvA σ σ' a) ∧ a14 = .int .u8 (stA σ' a) ∧ LT w wd B mb B2 mb2 T t' (4 * i + 4) ν' τ' σ' Λ' t' (4 * i + 4) ν' τ' σ' ∧ FrAt wd base (.slice p1 n1 k1) a.fs ∧ SN wd q9 ν σ ∧ RgAt wd p12 a.z a.co a.tk a.tm a.hm a.mm p1 n1 k1 ∧ OpAt wd p8 o)
          case first =>
            rcases real_tk HKS.out HR.out with e | ⟨x, hx, e⟩
            · have hxb : (a.tk != -1) = false := by rw [e]; rfl
              have em : mvA σ σ' a = false := by rw [mvA, if_pos e]
              have es : stA σ' a = 0 := by rw [stA, if_pos e]
              have HEM := hideIt (And.intro em es)
              have HQ := hideIt (And.intro H (And.intro hF1 (And.intro S9 (And.intro RG OP))))
              clear H hF1 S9 RG OP e em es
              go_wp2
              go_meet
              case rel => exact ⟨by rw [HEM.out.1], by rw [HEM.out.2], HQ.out⟩
            · have hx1 : ¬ ((x : Int) = -1) := by omega
              have hxb : (a.tk != -1) = true := by rw [e]; simp
              rw [e] at r2
              have em : mvA σ σ' a = !decide ((σ'.s.tk x).st = (σ.s.tk x).st ∧ (σ'.s.tk x).home = (σ.s.tk x).home ∧ IntKind.i64.wrap (σ'.s.tk x).band = IntKind.i64.wrap (σ.s.tk x).band) := by
                rw [mvA, e, if_neg hx1, Int.toNat_natCast]
                simp [r3w]
              have es : stA σ' a = (σ'.s.tk x).st := by rw [stA, e, if_neg hx1, Int.toNat_natCast]
              have HEM := hideIt (And.intro em es)
              have y0 := S9.t0 x hx
              have y1 := S9.t1 x hx
              have y2 := S9.t2 x hx
              have htk := task_any (w := World.drew wc) (x := x) H.p.drew.sch.1 hx
              have hnq := task_neq (σ'.s.tk x).st (σ'.s.tk x).home (IntKind.i64.wrap (σ'.s.tk x).band) (σ.s.tk x).st (σ.s.tk x).home (IntKind.i64.wrap (σ.s.tk x).band)
              have hgd := guard48
              have i4 : (0 : Int) ≤ x := by omega
              have i5 : (x : Int) < 16 := by omega
              have hp8 := OP.lt
              have hp9 := S9.lt
              have hp12 := RG.lt
              have HQ := hideIt (And.intro H (And.intro hF1 (And.intro S9 (And.intro RG OP))))
              clear H hF1 S9 RG OP e em es
              go_upto_region 17 with fail
              refine wp_region_held_drew (S := (fun w' => w'.cell? ⟨p12, 2, none⟩ = some (.int .i64 (x : Int)) ∧ w'.cell? ⟨q9, 1 + x * 3, none⟩ = some (.int .u8 (σ.s.tk x).st) ∧ w'.cell? ⟨q9, 1 + x * 3 + 1, none⟩ = some (.int .i64 (σ.s.tk x).home) ∧ w'.cell? ⟨q9, 1 + x * 3 + 2, none⟩ = some (.int .i64 (IntKind.i64.wrap (σ.s.tk x).band)))) (by kernel_rfl) ⟨r2, y0, y1, y2⟩ (fun hHeld => ?_)
              refine wpAnyH_take (i := 0) (oi := { dst := some 68, op := Go.Op.move (Go.Operand.tmp 6), type := 24, pos := _, after := #[], guard := none }) (v := ?vv15005) rfl (by kernel_rfl) (by kernel_rfl) (by kernel_rfl) (fun _ _ _ h => h) (Or.inl ⟨by rfl, ?hy15005⟩) (by assumption) ?tk15005
              case hy15005 => (intro w hSw; (try dsimp only at hSw); go_simp; (try with_reducible rfl))
              try simp only [Act.put, List.setIfInBounds_toArray, List.set_cons_zero, List.set_cons_succ]
              refine wpAnyH_take (i := 1) (oi := { dst := some 69, op := Go.Op.fieldAddr 43 (Go.Operand.tmp 12) 2, type := 0, pos := _, after := #[], guard := none }) (v := ?vv15006) rfl (by kernel_rfl) (by kernel_rfl) (by kernel_rfl) (fun _ _ _ h => h) (Or.inl ⟨by rfl, ?hy15006⟩) (by assumption) ?tk15006
              case hy15006 => (intro w hSw; (try dsimp only at hSw); go_simp; (try with_reducible rfl))
              try simp only [Act.put, List.setIfInBounds_toArray, List.set_cons_zero, List.set_cons_succ]
              refine wpAnyH_take (i := 2) (oi := { dst := some 70, op := Go.Op.load 35 (Go.Operand.tmp 69), type := 35, pos := _, after := #[{ on := 1, ground := Go.Ground.data }], guard := none }) (v := ?vv15007) rfl (by kernel_rfl) (by kernel_rfl) (by kernel_rfl) (fun _ _ _ h => h) (Or.inl ⟨by rfl, ?hy15007⟩) (by assumption) ?tk15007
              case hy15007 => (intro w hSw; (try dsimp only at hSw); go_simp; (try with_reducible rfl))
              try simp only [Act.put, List.setIfInBounds_toArray, List.set_cons_zero, List.set_cons_succ]
              refine wpAnyH_take (i := 4) (oi := { dst := some 72, op := Go.Op.fieldAddr 43 (Go.Operand.tmp 12) 2, type := 0, pos := _, after := #[], guard := none }) (v := ?vv15008) rfl (by kernel_rfl) (by kernel_rfl) (by kernel_rfl) (fun _ _ _ h => h) (Or.inl ⟨by rfl, ?hy15008⟩) (by assumption) ?tk15008
              case hy15008 => (intro w hSw; (try dsimp only at hSw); go_simp; (try with_reducible rfl))
              try simp only [Act.put, List.setIfInBounds_toArray, List.set_cons_zero, List.set_cons_succ]
              refine wpAnyH_take (i := 5) (oi := { dst := some 73, op := Go.Op.load 35 (Go.Operand.tmp 72), type := 35, pos := _, after := #[{ on := 4, ground := Go.Ground.data }], guard := none }) (v := ?vv15009) rfl (by kernel_rfl) (by kernel_rfl) (by kernel_rfl) (fun _ _ _ h => h) (Or.inl ⟨by rfl, ?hy15009⟩) (by assumption) ?tk15009
              case hy15009 => (intro w hSw; (try dsimp only at hSw); go_simp; (try with_reducible rfl))
              try simp only [Act.put, List.setIfInBounds_toArray, List.set_cons_zero, List.set_cons_succ]
              refine wpAnyH_take (i := 6) (oi := { dst := some 74, op := Go.Op.fieldAddr 61 (Go.Operand.tmp 9) 1, type := 0, pos := _, after := #[], guard := none }) (v := ?vv15010) rfl (by kernel_rfl) (by kernel_rfl) (by kernel_rfl) (fun _ _ _ h => h) (Or.inl ⟨by rfl, ?hy15010⟩) (by assumption) ?tk15010
              case hy15010 => (intro w hSw; (try dsimp only at hSw); go_simp; (try with_reducible rfl))
              try simp only [Act.put, List.setIfInBounds_toArray, List.set_cons_zero, List.set_cons_succ]
              refine wpAnyH_take (i := 7) (oi := { dst := some 75, op := Go.Op.indexAddr 49 (Go.Operand.tmp 74) (Go.Operand.tmp 73), type := 0, pos := _, after := #[{ on := 6, ground := Go.Ground.data }, { on := 5, ground := Go.Ground.data }], guard := none }) (v := ?vv15011) rfl (by kernel_rfl) (by kernel_rfl) (by kernel_rfl) (fun _ _ _ h => h) (Or.inl ⟨by rfl, ?hy15011⟩) (by assumption) ?tk15011
              case hy15011 => (intro w hSw; (try dsimp only at hSw); go_simp; (try with_reducible rfl))
              try simp only [Act.put, List.setIfInBounds_toArray, List.set_cons_zero, List.set_cons_succ]
              refine wpAnyH_take (i := 8) (oi := { dst := some 76, op := Go.Op.load 48 (Go.Operand.tmp 75), type := 48, pos := _, after := #[{ on := 7, ground := Go.Ground.data }], guard := none }) (v := ?vv15012) rfl (by kernel_rfl) (by kernel_rfl) (by kernel_rfl) (fun _ _ _ h => h) (Or.inl ⟨by rfl, ?hy15012⟩) (by assumption) ?tk15012
              case hy15012 => (intro w hSw; (try dsimp only at hSw); go_simp; (try with_reducible rfl))
              try simp only [Act.put, List.setIfInBounds_toArray, List.set_cons_zero, List.set_cons_succ]
              refine wpAnyH_ready (rs := [3]) (by kernel_rfl) (by simp) ?_
              refine AllReadyH.cons (o := { dst := some 71, op := Go.Op.call { callee := Go.Callee.value (Go.Operand.func 58), args := #[Go.Operand.tmp 68, Go.Operand.tmp 70], argTypes := #[24, 35] }, type := 48, pos := _, after := #[{ on := 0, ground := Go.Ground.data }, { on := 2, ground := Go.Ground.data }], guard := none }) rfl (fun K' hK' => ?_) AllReadyH.nil
              go_simp
              go_at_call 58
              refine htk.mono ?_
              rintro e w2 ⟨rfl, hb2⟩
              have Q2 := HQ.out.1.drew.keep hb2
              have hsb2 := hb2.size
              have u2 := cell_later hb2 r2
              have z0 := cell_later hb2 y0
              have z1 := cell_later hb2 y1
              have z2 := cell_later hb2 y2
              have HB2 := hideIt hb2
              have HQ2 := hideIt Q2
              have htk2 := task_any (x := x) Q2.p.sch.1 hx
              clear hb2 Q2 htk
              clear hHeld
              refine hK'.out _ _ ⟨u2, z0, z1, z2⟩ (fun hHeld => ?_)
              clear hK' K'
              try simp only [Act.put, List.setIfInBounds_toArray, List.set_cons_zero, List.set_cons_succ]
              refine wpAnyH_take (i := 9) (oi := { dst := some 77, op := Go.Op.binOp Go.BinOp.neq 48 (Go.Operand.tmp 71) (Go.Operand.tmp 76) 48, type := 4, pos := _, after := #[{ on := 3, ground := Go.Ground.data }, { on := 8, ground := Go.Ground.data }], guard := none }) (v := ?vv15013) rfl (by kernel_rfl) (by kernel_rfl) (by kernel_rfl) (fun _ _ _ h => h) (Or.inl ⟨by rfl, ?hy15013⟩) (by assumption) ?tk15013
              case hy15013 => (intro w hSw; (try dsimp only at hSw); go_simp; (try with_reducible rfl))
              try simp only [Act.put, List.setIfInBounds_toArray, List.set_cons_zero, List.set_cons_succ]
              refine wpAnyH_take (i := 10) (oi := { dst := some 13, op := Go.Op.assign (Go.Operand.tmp 77), type := 4, pos := _, after := #[{ on := 9, ground := Go.Ground.data }, { on := 3, ground := Go.Ground.chain }, { on := 0, ground := Go.Ground.phase }, { on := 1, ground := Go.Ground.phase }, { on := 2, ground := Go.Ground.phase }, { on := 3, ground := Go.Ground.phase }, { on := 4, ground := Go.Ground.phase }, { on := 5, ground := Go.Ground.phase }, { on := 6, ground := Go.Ground.phase }, { on := 7, ground := Go.Ground.phase }, { on := 8, ground := Go.Ground.phase }, { on := 9, ground := Go.Ground.phase }], guard := none }) (v := ?vv15014) rfl (by kernel_rfl) (by kernel_rfl) (by kernel_rfl) (fun _ _ _ h => h) (Or.inl ⟨by rfl, ?hy15014⟩) (by assumption) ?tk15014
              case hy15014 => (intro w hSw; (try dsimp only at hSw); go_simp; (try with_reducible rfl))
              try simp only [Act.put, List.setIfInBounds_toArray, List.set_cons_zero, List.set_cons_succ]
              refine wpAnyH_done (by kernel_rfl) ?_ _
              go_wp2_with fail
              refine htk2.mono ?_
              rintro e w3 ⟨rfl, hb3⟩
              have HB3 := hideIt hb3
              clear hb3 htk2
              go_wp2_with (first | (refine wpList_field48 rfl (.tmp 81) rfl rfl ?_) | go_in)
              go_meet
              case rel =>
                obtain ⟨H, hF1, S9, RG, OP⟩ := HQ.out
                have bb : Below wc.heap.size wc w3 := below_to (below_to (below_dr (Below.refl _ _)) HB2.out (Nat.le_refl _)) HB3.out HB2.out.size
                refine ⟨?_, by rw [HEM.out.2], H.keep bb, hF1.keep bb.size (fun q _ hq => bb.block q hq), S9.blk (bb.block q9 hp9), RG.blk (bb.block p12 hp12), OP.blk (bb.block p8 hp8)⟩
                rw [HEM.out.1]
                simp [IntKind.wrap_i64, wrap64]
          case rest =>
          clear H hF1 S9 RG OP r2
          obtain ⟨rfl, rfl, H, hF1, S9, RG, OP⟩ := hcut
          obtain ⟨pv, cap, hV, v0, hown, _⟩ := H.col
          rw [ETC.out] at v0
          obtain ⟨m, HM⟩ : ∃ m, Hid (Λ'.l.length = m) := ⟨_, hideIt rfl⟩
          rw [HM.out] at v0 hown
          have hx : ∃ p9 c9, (∀ w', (Instr.slice 111 (.slice pv m cap) (some (.int .i64 (ln : Int))) none none).run Tryz.prog w' = .ok (.slice p9 (expL t' (σ.s.cur c4) (mvA σ σ' a) (stA σ' a) (fun b => (ν.box b).acc) o a).length c9) w') ∧ EvIn (World.drew wc) (.slice p9 (expL t' (σ.s.cur c4) (mvA σ σ' a) (stA σ' a) (fun b => (ν.box b).acc) o a).length c9) (expL t' (σ.s.cur c4) (mvA σ σ' a) (stA σ' a) (fun b => (ν.box b).acc) o a) := by
            have := ev_tail (w := World.drew wc) (l := Λ.l) (es := expL t' (σ.s.cur c4) (mvA σ σ' a) (stA σ' a) (fun b => (ν.box b).acc) o a) (base := T.b) (p := pv) (m := m) (cap := cap) (by rw [← HL.out, HM.out]; exact own_one hown (fun _ _ => rfl)) (by rw [← HL.out]; exact HM.out.symm)
            rw [HLn.out] at this
            exact this
          obtain ⟨p9, c9, hsl, hE9⟩ := hx
          have HE9 := hideIt hE9
          have hlen : (expL t' (σ.s.cur c4) (mvA σ σ' a) (stA σ' a) (fun b => (ν.box b).acc) o a).length ≤ 65 := expL_len H64.out (.inr (tgL_len o))
          have HLN := hideIt hlen
          have hln' : Λ'.l.length ≤ 65 * (i + 1) := by
            have e := HL.out
            have e2 := HLn.out
            rw [e, List.length_append]
            omega
          have HLF := hideIt hln'
          have hnow := now_any (w := World.drew wc) H.p.drew.clk
          have hex := exp_any (w := World.drew wc) (o := o) (a := a) (p := p1) (n := n1) (c := k1) (now := t') (was := σ.s.cur c4) (st := stA σ' a) (mv := mvA σ σ' a) (sb := q9) (so := 105) (base := base) (ac := fun b => (ν.box b).acc) (hF1.keep (Nat.le_refl _) (fun _ _ _ => rfl)) H64.out (fun b hb => S9.acc b hb) (fun hz hk => real_tgt HR.out hz hk)
          unfold opV resCs at hex
          obtain ⟨es, HES⟩ : ∃ es, Hid (expL t' (σ.s.cur c4) (mvA σ σ' a) (stA σ' a) (fun b => (ν.box b).acc) o a = es) := ⟨_, hideIt rfl⟩
          rw [HES.out] at hsl HE9 hex HLN
          obtain ⟨mv, HMV⟩ : ∃ mv, Hid (mvA σ σ' a = mv) := ⟨_, hideIt rfl⟩
          obtain ⟨st, HSTA⟩ : ∃ st, Hid (stA σ' a = st) := ⟨_, hideIt rfl⟩
          rw [HMV.out, HSTA.out] at hex
          rw [HMV.out, HSTA.out]
          obtain ⟨elen, HEL⟩ : ∃ elen, Hid (es.length = elen) := ⟨_, hideIt rfl⟩
          rw [HEL.out] at hsl HE9
          obtain ⟨g0, g1, g2, g3, g4, g5⟩ := OP
          obtain ⟨r0, r1, r2, r3, r4, r5, r6, r7, r8, r9, r10, r11, r12, r13, r14⟩ := RG
          have HQ := hideIt H.drew
          clear H hF1 S9 hown hV hE9 hlen hln'
          go_upto_region 19 with fail
          refine wp_region_held_drew (S := (fun w' => w'.cell? ⟨C, 0, none⟩ = some (.slice pv m cap) ∧ (w'.cell? ⟨p12, 0, none⟩ = some (.int .i64 a.z) ∧ w'.cell? ⟨p12, 1, none⟩ = some (.int .i64 a.co) ∧ w'.cell? ⟨p12, 2, none⟩ = some (.int .i64 a.tk) ∧ w'.cell? ⟨p12, 3, none⟩ = some (.int .u64 a.tm) ∧ w'.cell? ⟨p12, 4, none⟩ = some (.bool a.hm) ∧ w'.cell? ⟨p12, 5, none⟩ = some (.int .i64 a.mm.mf) ∧ w'.cell? ⟨p12, 6, none⟩ = some (.int .i64 a.mm.mt) ∧ w'.cell? ⟨p12, 7, none⟩ = some (.int .u32 a.mm.md) ∧ w'.cell? ⟨p12, 8, none⟩ = some (.int .u64 a.mm.mq) ∧ w'.cell? ⟨p12, 9, none⟩ = some (.int .u64 a.mm.ma) ∧ w'.cell? ⟨p12, 10, none⟩ = some (.int .u64 a.mm.x0) ∧ w'.cell? ⟨p12, 11, none⟩ = some (.int .u64 a.mm.x1) ∧ w'.cell? ⟨p12, 12, none⟩ = some (.int .u64 a.mm.x2) ∧ w'.cell? ⟨p12, 13, none⟩ = some (.int .u64 a.mm.x3) ∧ w'.cell? ⟨p12, 14, none⟩ = some (.slice p1 n1 k1)) ∧ (w'.cell? ⟨p8, 0, none⟩ = some (.int .u8 (o.kd : Int)) ∧ w'.cell? ⟨p8, 1, none⟩ = some (.int .i64 o.a) ∧ w'.cell? ⟨p8, 2, none⟩ = some (.int .i64 o.b) ∧ w'.cell? ⟨p8, 3, none⟩ = some (.int .i64 o.c) ∧ w'.cell? ⟨p8, 4, none⟩ = some (.int .u64 (o.x : Int)) ∧ w'.cell? ⟨p8, 5, none⟩ = some (.int .u64 (o.y : Int))))) (by kernel_rfl) ⟨v0, ⟨r0, r1, r2, r3, r4, r5, r6, r7, r8, r9, r10, r11, r12, r13, r14⟩, ⟨g0, g1, g2, g3, g4, g5⟩⟩ (fun hHeld => ?_)
          refine wpAnyH_take (i := 0) (oi := { dst := some 83, op := Go.Op.move (Go.Operand.tmp 4), type := 110, pos := _, after := #[], guard := none }) (v := ?vv15015) rfl (by kernel_rfl) (by kernel_rfl) (by kernel_rfl) (fun _ _ _ h => h) (Or.inl ⟨by rfl, ?hy15015⟩) (by assumption) ?tk15015
          case hy15015 => (intro w hSw; (try dsimp only at hSw); go_simp; (try with_reducible rfl))
          try simp only [Act.put, List.setIfInBounds_toArray, List.set_cons_zero, List.set_cons_succ]
          refine wpAnyH_take (i := 1) (oi := { dst := some 84, op := Go.Op.nilCheck (Go.Operand.tmp 83), type := 0, pos := _, after := #[{ on := 0, ground := Go.Ground.data }], guard := none }) (v := ?vv15016) rfl (by kernel_rfl) (by kernel_rfl) (by kernel_rfl) (fun _ _ _ h => h) (Or.inl ⟨by rfl, ?hy15016⟩) (by assumption) ?tk15016
          case hy15016 => (intro w hSw; (try dsimp only at hSw); go_simp; (try with_reducible rfl))
          try simp only [Act.put, List.setIfInBounds_toArray, List.set_cons_zero, List.set_cons_succ]
          refine wpAnyH_take (i := 2) (oi := { dst := some 85, op := Go.Op.fieldAddr 115 (Go.Operand.tmp 84) 0, type := 0, pos := _, after := #[{ on := 1, ground := Go.Ground.data }], guard := none }) (v := ?vv15017) rfl (by kernel_rfl) (by kernel_rfl) (by kernel_rfl) (fun _ _ _ h => h) (Or.inl ⟨by rfl, ?hy15017⟩) (by assumption) ?tk15017
          case hy15017 => (intro w hSw; (try dsimp only at hSw); go_simp; (try with_reducible rfl))
          try simp only [Act.put, List.setIfInBounds_toArray, List.set_cons_zero, List.set_cons_succ]
          refine wpAnyH_take (i := 3) (oi := { dst := some 86, op := Go.Op.load 111 (Go.Operand.tmp 85), type := 111, pos := _, after := #[{ on := 2, ground := Go.Ground.data }], guard := none }) (v := ?vv15018) rfl (by kernel_rfl) (by kernel_rfl) (by kernel_rfl) (fun _ _ _ h => h) (Or.inl ⟨by rfl, ?hy15018⟩) (by assumption) ?tk15018
          case hy15018 => (intro w hSw; (try dsimp only at hSw); go_simp; (try with_reducible rfl))
          try simp only [Act.put, List.setIfInBounds_toArray, List.set_cons_zero, List.set_cons_succ]
          refine wpAnyH_take (i := 4) (oi := { dst := some 87, op := Go.Op.move (Go.Operand.tmp 11), type := 3, pos := _, after := #[], guard := none }) (v := ?vv15019) rfl (by kernel_rfl) (by kernel_rfl) (by kernel_rfl) (fun _ _ _ h => h) (Or.inl ⟨by rfl, ?hy15019⟩) (by assumption) ?tk15019
          case hy15019 => (intro w hSw; (try dsimp only at hSw); go_simp; (try with_reducible rfl))
          try simp only [Act.put, List.setIfInBounds_toArray, List.set_cons_zero, List.set_cons_succ]
          refine wpAnyH_take (i := 5) (oi := { dst := some 88, op := Go.Op.slice 111 (Go.Operand.tmp 86) (some (Go.Operand.tmp 87)) none none, type := 111, pos := _, after := #[{ on := 3, ground := Go.Ground.data }, { on := 4, ground := Go.Ground.data }], guard := none }) (v := ?vv15020) rfl (by kernel_rfl) (by kernel_rfl) (by kernel_rfl) (fun _ _ _ h => h) (Or.inl ⟨by rfl, ?hy15020⟩) (by assumption) ?tk15020
          case hy15020 => (intro w hSw; (try dsimp only at hSw); go_simp; (try with_reducible rfl))
          try simp only [Act.put, List.setIfInBounds_toArray, List.set_cons_zero, List.set_cons_succ]
          refine wpAnyH_take (i := 6) (oi := { dst := some 89, op := Go.Op.load 32 (Go.Operand.tmp 8), type := 32, pos := _, after := #[], guard := none }) (v := ?vv15021) rfl (by kernel_rfl) (by kernel_rfl) (by kernel_rfl) (fun _ _ _ h => h) (Or.inl ⟨by rfl, ?hy15021⟩) (by assumption) ?tk15021
          case hy15021 => (intro w hSw; (try dsimp only at hSw); go_simp; (try with_reducible rfl))
          try simp only [Act.put, List.setIfInBounds_toArray, List.set_cons_zero, List.set_cons_succ]
          refine wpAnyH_take (i := 7) (oi := { dst := some 90, op := Go.Op.load 43 (Go.Operand.tmp 12), type := 43, pos := _, after := #[], guard := none }) (v := ?vv15022) rfl (by kernel_rfl) (by kernel_rfl) (by kernel_rfl) (fun _ _ _ h => h) (Or.inl ⟨by rfl, ?hy15022⟩) (by assumption) ?tk15022
          case hy15022 => (intro w hSw; (try dsimp only at hSw); go_simp; (try with_reducible rfl))
          try simp only [Act.put, List.setIfInBounds_toArray, List.set_cons_zero, List.set_cons_succ]
          refine wpAnyH_take (i := 8) (oi := { dst := some 91, op := Go.Op.move (Go.Operand.tmp 6), type := 24, pos := _, after := #[], guard := none }) (v := ?vv15023) rfl (by kernel_rfl) (by kernel_rfl) (by kernel_rfl) (fun _ _ _ h => h) (Or.inl ⟨by rfl, ?hy15023⟩) (by assumption) ?tk15023
          case hy15023 => (intro w hSw; (try dsimp only at hSw); go_simp; (try with_reducible rfl))
          try simp only [Act.put, List.setIfInBounds_toArray, List.set_cons_zero, List.set_cons_succ]
          refine wpAnyH_take (i := 10) (oi := { dst := some 93, op := Go.Op.move (Go.Operand.tmp 10), type := 35, pos := _, after := #[], guard := none }) (v := ?vv15024) rfl (by kernel_rfl) (by kernel_rfl) (by kernel_rfl) (fun _ _ _ h => h) (Or.inl ⟨by rfl, ?hy15024⟩) (by assumption) ?tk15024
          case hy15024 => (intro w hSw; (try dsimp only at hSw); go_simp; (try with_reducible rfl))
          try simp only [Act.put, List.setIfInBounds_toArray, List.set_cons_zero, List.set_cons_succ]
          refine wpAnyH_take (i := 11) (oi := { dst := some 94, op := Go.Op.move (Go.Operand.tmp 13), type := 4, pos := _, after := #[], guard := none }) (v := ?vv15025) rfl (by kernel_rfl) (by kernel_rfl) (by kernel_rfl) (fun _ _ _ h => h) (Or.inl ⟨by rfl, ?hy15025⟩) (by assumption) ?tk15025
          case hy15025 => (intro w hSw; (try dsimp only at hSw); go_simp; (try with_reducible rfl))
          try simp only [Act.put, List.setIfInBounds_toArray, List.set_cons_zero, List.set_cons_succ]
          refine wpAnyH_take (i := 12) (oi := { dst := some 95, op := Go.Op.move (Go.Operand.tmp 14), type := 46, pos := _, after := #[], guard := none }) (v := ?vv15026) rfl (by kernel_rfl) (by kernel_rfl) (by kernel_rfl) (fun _ _ _ h => h) (Or.inl ⟨by rfl, ?hy15026⟩) (by assumption) ?tk15026
          case hy15026 => (intro w hSw; (try dsimp only at hSw); go_simp; (try with_reducible rfl))
          try simp only [Act.put, List.setIfInBounds_toArray, List.set_cons_zero, List.set_cons_succ]
          refine wpAnyH_take (i := 13) (oi := { dst := some 96, op := Go.Op.fieldAddr 61 (Go.Operand.tmp 9) 4, type := 0, pos := _, after := #[], guard := none }) (v := ?vv15027) rfl (by kernel_rfl) (by kernel_rfl) (by kernel_rfl) (fun _ _ _ h => h) (Or.inl ⟨by rfl, ?hy15027⟩) (by assumption) ?tk15027
          case hy15027 => (intro w hSw; (try dsimp only at hSw); go_simp; (try with_reducible rfl))
          try simp only [Act.put, List.setIfInBounds_toArray, List.set_cons_zero, List.set_cons_succ]
          refine wpAnyH_ready (rs := [9]) (by kernel_rfl) (by simp) ?_
          refine AllReadyH.cons (o := { dst := some 92, op := Go.Op.call { callee := Go.Callee.value (Go.Operand.func 28), args := #[Go.Operand.tmp 91], argTypes := #[24] }, type := 29, pos := _, after := #[{ on := 8, ground := Go.Ground.data }], guard := none }) rfl (fun K' hK' => ?_) AllReadyH.nil
          go_simp
          go_at_call 28
          refine hnow.mono ?_
          rintro e w2 ⟨rfl, rfl⟩
          clear hHeld
          refine hK'.out _ _ ⟨v0, ⟨r0, r1, r2, r3, r4, r5, r6, r7, r8, r9, r10, r11, r12, r13, r14⟩, ⟨g0, g1, g2, g3, g4, g5⟩⟩ (fun hHeld => ?_)
          clear hK' K'
          try simp only [Act.put, List.setIfInBounds_toArray, List.set_cons_zero, List.set_cons_succ]
          refine wpAnyH_ready (rs := [14]) (by kernel_rfl) (by simp) ?_
          refine AllReadyH.cons (o := { dst := some 97, op := Go.Op.call { callee := Go.Callee.value (Go.Operand.func 60), args := #[Go.Operand.tmp 89, Go.Operand.tmp 90, Go.Operand.tmp 92, Go.Operand.tmp 93, Go.Operand.tmp 94, Go.Operand.tmp 95, Go.Operand.tmp 96], argTypes := #[32, 43, 29, 35, 4, 46, 125] }, type := 111, pos := _, after := #[{ on := 6, ground := Go.Ground.data }, { on := 7, ground := Go.Ground.data }, { on := 9, ground := Go.Ground.data }, { on := 10, ground := Go.Ground.data }, { on := 11, ground := Go.Ground.data }, { on := 12, ground := Go.Ground.data }, { on := 13, ground := Go.Ground.data }, { on := 9, ground := Go.Ground.chain }], guard := none }) rfl (fun K' hK' => ?_) AllReadyH.nil
          go_simp
          go_at_call 60
          refine hex.mono ?_
          rintro e w2 ⟨ve, rfl, hE2, hb2⟩
          have Q2 := HQ.out.keep hb2
          have v0' := cell_later hb2 v0
          have r0' := cell_later hb2 r0
          have r1' := cell_later hb2 r1
          have r2' := cell_later hb2 r2
          have r3' := cell_later hb2 r3
          have r4' := cell_later hb2 r4
          have r5' := cell_later hb2 r5
          have r6' := cell_later hb2 r6
          have r7' := cell_later hb2 r7
          have r8' := cell_later hb2 r8
          have r9' := cell_later hb2 r9
          have r10' := cell_later hb2 r10
          have r11' := cell_later hb2 r11
          have r12' := cell_later hb2 r12
          have r13' := cell_later hb2 r13
          have r14' := cell_later hb2 r14
          have g0' := cell_later hb2 g0
          have g1' := cell_later hb2 g1
          have g2' := cell_later hb2 g2
          have g3' := cell_later hb2 g3
          have g4' := cell_later hb2 g4
          have g5' := cell_later hb2 g5
          have heq := eq_events (HE9.out.below hb2) hE2 (by have := HLN.out; omega)
          have HQ2 := hideIt Q2
          clear hb2 Q2 hE2 hex
          clear hHeld
          refine hK'.out _ _ ⟨v0', ⟨r0', r1', r2', r3', r4', r5', r6', r7', r8', r9', r10', r11', r12', r13', r14'⟩, ⟨g0', g1', g2', g3', g4', g5'⟩⟩ (fun hHeld => ?_)
          clear hK' K'
          try simp only [Act.put, List.setIfInBounds_toArray, List.set_cons_zero, List.set_cons_succ]
          refine wpAnyH_ready (rs := [15]) (by kernel_rfl) (by simp) ?_
          refine AllReadyH.cons (o := { dst := some 98, op := Go.Op.call { callee := Go.Callee.value (Go.Operand.func 59), args := #[Go.Operand.tmp 88, Go.Operand.tmp 97], argTypes := #[111, 111] }, type := 4, pos := _, after := #[{ on := 5, ground := Go.Ground.data }, { on := 14, ground := Go.Ground.data }, { on := 14, ground := Go.Ground.chain }], guard := none }) rfl (fun K' hK' => ?_) AllReadyH.nil
          go_simp
          go_at_call 59
          refine heq.mono ?_
          rintro e w3 ⟨rfl, hb3⟩
          have Q3 := HQ2.out.keep hb3
          have v0'' := cell_later hb3 v0'
          have r0'' := cell_later hb3 r0'
          have r1'' := cell_later hb3 r1'
          have r2'' := cell_later hb3 r2'
          have r3'' := cell_later hb3 r3'
          have r4'' := cell_later hb3 r4'
          have r5'' := cell_later hb3 r5'
          have r6'' := cell_later hb3 r6'
          have r7'' := cell_later hb3 r7'
          have r8'' := cell_later hb3 r8'
          have r9'' := cell_later hb3 r9'
          have r10'' := cell_later hb3 r10'
          have r11'' := cell_later hb3 r11'
          have r12'' := cell_later hb3 r12'
          have r13'' := cell_later hb3 r13'
          have r14'' := cell_later hb3 r14'
          have g0'' := cell_later hb3 g0'
          have g1'' := cell_later hb3 g1'
          have g2'' := cell_later hb3 g2'
          have g3'' := cell_later hb3 g3'
          have g4'' := cell_later hb3 g4'
          have g5'' := cell_later hb3 g5'
          have HQ3 := hideIt Q3
          clear hb3 Q3 heq
          clear hHeld
          refine hK'.out _ _ ⟨v0'', ⟨r0'', r1'', r2'', r3'', r4'', r5'', r6'', r7'', r8'', r9'', r10'', r11'', r12'', r13'', r14''⟩, ⟨g0'', g1'', g2'', g3'', g4'', g5''⟩⟩ (fun hHeld => ?_)
          clear hK' K'
          try simp only [Act.put, List.setIfInBounds_toArray, List.set_cons_zero, List.set_cons_succ]
          refine wpAnyH_take (i := 16) (oi := { dst := some 99, op := Go.Op.unOp Go.UnOp.not 4 (Go.Operand.tmp 98), type := 4, pos := _, after := #[{ on := 15, ground := Go.Ground.data }], guard := none }) (v := ?vv15028) rfl (by kernel_rfl) (by kernel_rfl) (by kernel_rfl) (fun _ _ _ h => h) (Or.inl ⟨by rfl, ?hy15028⟩) (by assumption) ?tk15028
          case hy15028 => (intro w hSw; (try dsimp only at hSw); go_simp; (try with_reducible rfl))
          try simp only [Act.put, List.setIfInBounds_toArray, List.set_cons_zero, List.set_cons_succ]
          refine wpAnyH_done (by kernel_rfl) ?_ _
          go_wp2
          go_meet
          case rel => exact ⟨t', ν', τ', σ', Λ', HQ3.out, HLF.out⟩
        case rest =>
          obtain ⟨t', ν', τ', σ', Λ', H', hl'⟩ := hcut
          go_wp2
          go_roundg (n - (i + 1))
          case measure => omega
          case rel => exact ⟨i + 1, t', ν', τ', σ', Λ', by omega, by go_num, H', hl'⟩
      · have e : i = n := by omega
        subst e
        obtain ⟨pv, cap, hV, v0, hown, RG, hN0, hN8⟩ := H.col
        rw [ETC.out] at v0
        obtain ⟨m, HM⟩ : ∃ m, Hid (Λ.l.length = m) := ⟨_, hideIt rfl⟩
        rw [HM.out] at v0 hln
        obtain ⟨kp, hkp⟩ : ∃ kp, kp = min m (max n9 1) := ⟨_, rfl⟩
        have HH := hideIt H
        have HVV := hideIt hV
        have HKP := hideIt hkp
        clear hown RG hV H hkp
        go_upto_region 22 with fail
        go_cut [15] (fun a15 wd => a15 = .int .i64 (kp : Int) ∧ LT w wd B mb B2 mb2 T t (4 * i) ν τ σ Λ t (4 * i) ν τ σ)
        case first =>
          go_wp2
          go_meet
          case rel =>
            refine ⟨?_, HH.out⟩
            have hkp := HKP.out
            congr 1
            repeat' split
            all_goals omega
        case rest =>
        clear v0 HH
        obtain ⟨rfl, H⟩ := hcut
        have hx : wc.cell? ⟨C, 0, none⟩ = some (.slice pv m cap) := by
          obtain ⟨pv', cap', hV', u0, _⟩ := H.col
          rw [HVV.out] at hV'
          simp at hV'
          obtain ⟨rfl, rfl⟩ := hV'
          rw [ETC.out, HM.out] at u0
          exact u0
        have v0 := hx
        clear hx
        obtain ⟨dl, HDL⟩ : ∃ dl, Hid (m - kp = dl) := ⟨_, hideIt rfl⟩
        have hdl : dl + kp = m := by have := HDL.out; have := HKP.out; omega
        have hwd : IntKind.i64.wrap ((m : Int) - kp) = (dl : Int) := by rw [IntKind.wrap_i64]; omega
        have hwu : IntKind.u64.wrap (m : Int) = (m : Int) := by rw [IntKind.wrap_u64]; omega
        have hwv : IntKind.u64.wrap (dl : Int) = (dl : Int) := by rw [IntKind.wrap_u64]; omega
        have hx : ∃ p9 c9, (∀ w', (Instr.slice 111 (.slice pv m cap) (some (.int .i64 (dl : Int))) none none).run Tryz.prog w' = .ok (.slice p9 (Λ.l.drop dl).length c9) w') ∧ EvIn (World.drew wc) (.slice p9 (Λ.l.drop dl).length c9) (Λ.l.drop dl) := by
          obtain ⟨pv', cap', hV', _, hown, _⟩ := H.col
          rw [HVV.out] at hV'
          simp at hV'
          obtain ⟨rfl, rfl⟩ := hV'
          have htl : (Λ.l.take dl).length = dl := by rw [List.length_take, HM.out]; omega
          have := ev_tail (w := World.drew wc) (l := Λ.l.take dl) (es := Λ.l.drop dl) (base := T.b) (p := pv) (m := m) (cap := cap) (by rw [List.take_append_drop, HM.out]; rw [HM.out] at hown; exact own_one hown (fun _ _ => rfl)) (by rw [List.take_append_drop]; exact HM.out.symm)
          rw [htl] at this
          exact this
        obtain ⟨p9, c9, hsl, hE9⟩ := hx
        have HE9 := hideIt hE9
        have HLD : Hid ((Λ.l.drop dl).length ≤ 999999000) := hideIt (by rw [List.length_drop, HM.out]; omega)
        have hx : Calls Tryz.prog 61 #[.pointer (some ⟨R, 0, none⟩)] (World.drew wc) fun e w' => ∃ v, e = .returned v ∧ EvIn w' v (Λ.l.drop dl) ∧ Below (World.drew wc).heap.size (World.drew wc) w' := by
          obtain ⟨_, _, _, _, _, RG, q0, q8⟩ := H.drew.col
          have := events_any RG ⟨q0, q8⟩ (by rw [HM.out]; omega)
          rw [ETR.out, ETN.out, HM.out, ← HKP.out, HDL.out] at this
          exact this
        have hev := hx
        clear hx
        obtain ⟨dls, HDS⟩ : ∃ dls, Hid ((Λ.l.drop dl).length = dls) := ⟨_, hideIt rfl⟩
        rw [HDS.out] at hsl HE9
        have HQ := hideIt H.drew
        clear H hE9
        go_upto_region 23 with fail
        go_cut [126] (fun a126 wd => a126 = .bool false ∧ LT w wd B mb B2 mb2 T t (4 * i) ν τ σ Λ t (4 * i) ν τ σ)
        case first =>
          refine wp_region_held_drew (S := (fun w' => w'.cell? ⟨C, 0, none⟩ = some (.slice pv m cap))) (by kernel_rfl) v0 (fun hHeld => ?_)
          refine wpAnyH_take (i := 0) (oi := { dst := some 111, op := Go.Op.move (Go.Operand.tmp 3), type := 108, pos := _, after := #[], guard := none }) (v := ?vv15029) rfl (by kernel_rfl) (by kernel_rfl) (by kernel_rfl) (fun _ _ _ h => h) (Or.inl ⟨by rfl, ?hy15029⟩) (by assumption) ?tk15029
          case hy15029 => (intro w hSw; (try dsimp only at hSw); go_simp; (try with_reducible rfl))
          try simp only [Act.put, List.setIfInBounds_toArray, List.set_cons_zero, List.set_cons_succ]
          refine wpAnyH_take (i := 2) (oi := { dst := some 113, op := Go.Op.move (Go.Operand.tmp 4), type := 110, pos := _, after := #[], guard := none }) (v := ?vv15030) rfl (by kernel_rfl) (by kernel_rfl) (by kernel_rfl) (fun _ _ _ h => h) (Or.inl ⟨by rfl, ?hy15030⟩) (by assumption) ?tk15030
          case hy15030 => (intro w hSw; (try dsimp only at hSw); go_simp; (try with_reducible rfl))
          try simp only [Act.put, List.setIfInBounds_toArray, List.set_cons_zero, List.set_cons_succ]
          refine wpAnyH_take (i := 3) (oi := { dst := some 114, op := Go.Op.nilCheck (Go.Operand.tmp 113), type := 0, pos := _, after := #[{ on := 2, ground := Go.Ground.data }], guard := none }) (v := ?vv15031) rfl (by kernel_rfl) (by kernel_rfl) (by kernel_rfl) (fun _ _ _ h => h) (Or.inl ⟨by rfl, ?hy15031⟩) (by assumption) ?tk15031
          case hy15031 => (intro w hSw; (try dsimp only at hSw); go_simp; (try with_reducible rfl))
          try simp only [Act.put, List.setIfInBounds_toArray, List.set_cons_zero, List.set_cons_succ]
          refine wpAnyH_take (i := 4) (oi := { dst := some 115, op := Go.Op.fieldAddr 115 (Go.Operand.tmp 114) 0, type := 0, pos := _, after := #[{ on := 3, ground := Go.Ground.data }], guard := none }) (v := ?vv15032) rfl (by kernel_rfl) (by kernel_rfl) (by kernel_rfl) (fun _ _ _ h => h) (Or.inl ⟨by rfl, ?hy15032⟩) (by assumption) ?tk15032
          case hy15032 => (intro w hSw; (try dsimp only at hSw); go_simp; (try with_reducible rfl))
          try simp only [Act.put, List.setIfInBounds_toArray, List.set_cons_zero, List.set_cons_succ]
          refine wpAnyH_take (i := 5) (oi := { dst := some 116, op := Go.Op.load 111 (Go.Operand.tmp 115), type := 111, pos := _, after := #[{ on := 4, ground := Go.Ground.data }], guard := none }) (v := ?vv15033) rfl (by kernel_rfl) (by kernel_rfl) (by kernel_rfl) (fun _ _ _ h => h) (Or.inl ⟨by rfl, ?hy15033⟩) (by assumption) ?tk15033
          case hy15033 => (intro w hSw; (try dsimp only at hSw); go_simp; (try with_reducible rfl))
          try simp only [Act.put, List.setIfInBounds_toArray, List.set_cons_zero, List.set_cons_succ]
          refine wpAnyH_take (i := 6) (oi := { dst := some 117, op := Go.Op.move (Go.Operand.tmp 4), type := 110, pos := _, after := #[], guard := none }) (v := ?vv15034) rfl (by kernel_rfl) (by kernel_rfl) (by kernel_rfl) (fun _ _ _ h => h) (Or.inl ⟨by rfl, ?hy15034⟩) (by assumption) ?tk15034
          case hy15034 => (intro w hSw; (try dsimp only at hSw); go_simp; (try with_reducible rfl))
          try simp only [Act.put, List.setIfInBounds_toArray, List.set_cons_zero, List.set_cons_succ]
          refine wpAnyH_take (i := 7) (oi := { dst := some 118, op := Go.Op.nilCheck (Go.Operand.tmp 117), type := 0, pos := _, after := #[{ on := 6, ground := Go.Ground.data }], guard := none }) (v := ?vv15035) rfl (by kernel_rfl) (by kernel_rfl) (by kernel_rfl) (fun _ _ _ h => h) (Or.inl ⟨by rfl, ?hy15035⟩) (by assumption) ?tk15035
          case hy15035 => (intro w hSw; (try dsimp only at hSw); go_simp; (try with_reducible rfl))
          try simp only [Act.put, List.setIfInBounds_toArray, List.set_cons_zero, List.set_cons_succ]
          refine wpAnyH_take (i := 8) (oi := { dst := some 119, op := Go.Op.fieldAddr 115 (Go.Operand.tmp 118) 0, type := 0, pos := _, after := #[{ on := 7, ground := Go.Ground.data }], guard := none }) (v := ?vv15036) rfl (by kernel_rfl) (by kernel_rfl) (by kernel_rfl) (fun _ _ _ h => h) (Or.inl ⟨by rfl, ?hy15036⟩) (by assumption) ?tk15036
          case hy15036 => (intro w hSw; (try dsimp only at hSw); go_simp; (try with_reducible rfl))
          try simp only [Act.put, List.setIfInBounds_toArray, List.set_cons_zero, List.set_cons_succ]
          refine wpAnyH_take (i := 9) (oi := { dst := some 120, op := Go.Op.load 111 (Go.Operand.tmp 119), type := 111, pos := _, after := #[{ on := 8, ground := Go.Ground.data }], guard := none }) (v := ?vv15037) rfl (by kernel_rfl) (by kernel_rfl) (by kernel_rfl) (fun _ _ _ h => h) (Or.inl ⟨by rfl, ?hy15037⟩) (by assumption) ?tk15037
          case hy15037 => (intro w hSw; (try dsimp only at hSw); go_simp; (try with_reducible rfl))
          try simp only [Act.put, List.setIfInBounds_toArray, List.set_cons_zero, List.set_cons_succ]
          refine wpAnyH_take (i := 10) (oi := { dst := some 121, op := Go.Op.call { callee := Go.Callee.builtin Go.Builtin.len, args := #[Go.Operand.tmp 120], argTypes := #[111] }, type := 3, pos := _, after := #[{ on := 9, ground := Go.Ground.data }], guard := none }) (v := ?vv15038) rfl (by kernel_rfl) (by kernel_rfl) (by kernel_rfl) (fun _ _ _ h => h) (Or.inl ⟨by rfl, ?hy15038⟩) (by assumption) ?tk15038
          case hy15038 => (intro w hSw; (try dsimp only at hSw); go_simp; (try with_reducible rfl))
          try simp only [Act.put, List.setIfInBounds_toArray, List.set_cons_zero, List.set_cons_succ]
          refine wpAnyH_take (i := 11) (oi := { dst := some 122, op := Go.Op.move (Go.Operand.tmp 15), type := 3, pos := _, after := #[], guard := none }) (v := ?vv15039) rfl (by kernel_rfl) (by kernel_rfl) (by kernel_rfl) (fun _ _ _ h => h) (Or.inl ⟨by rfl, ?hy15039⟩) (by assumption) ?tk15039
          case hy15039 => (intro w hSw; (try dsimp only at hSw); go_simp; (try with_reducible rfl))
          try simp only [Act.put, List.setIfInBounds_toArray, List.set_cons_zero, List.set_cons_succ]
          refine wpAnyH_take (i := 12) (oi := { dst := some 123, op := Go.Op.binOp Go.BinOp.sub 3 (Go.Operand.tmp 121) (Go.Operand.tmp 122) 3, type := 3, pos := _, after := #[{ on := 10, ground := Go.Ground.data }, { on := 11, ground := Go.Ground.data }], guard := none }) (v := ?vv15040) rfl (by kernel_rfl) (by kernel_rfl) (by kernel_rfl) (fun _ _ _ h => h) (Or.inl ⟨by rfl, ?hy15040⟩) (by assumption) ?tk15040
          case hy15040 => (intro w hSw; (try dsimp only at hSw); go_simp; (try with_reducible rfl))
          try simp only [Act.put, List.setIfInBounds_toArray, List.set_cons_zero, List.set_cons_succ]
          refine wpAnyH_take (i := 13) (oi := { dst := some 124, op := Go.Op.slice 111 (Go.Operand.tmp 116) (some (Go.Operand.tmp 123)) none none, type := 111, pos := _, after := #[{ on := 5, ground := Go.Ground.data }, { on := 12, ground := Go.Ground.data }], guard := none }) (v := ?vv15041) rfl (by kernel_rfl) (by kernel_rfl) (by kernel_rfl) (fun _ _ _ h => h) (Or.inl ⟨by rfl, ?hy15041⟩) (by assumption) ?tk15041
          case hy15041 => (intro w hSw; (try dsimp only at hSw); go_simp; (try with_reducible rfl))
          try simp only [Act.put, List.setIfInBounds_toArray, List.set_cons_zero, List.set_cons_succ]
          refine wpAnyH_ready (rs := [1]) (by kernel_rfl) (by simp) ?_
          refine AllReadyH.cons (o := { dst := some 112, op := Go.Op.call { callee := Go.Callee.value (Go.Operand.func 61), args := #[Go.Operand.tmp 111], argTypes := #[108] }, type := 111, pos := _, after := #[{ on := 0, ground := Go.Ground.data }], guard := none }) rfl (fun K' hK' => ?_) AllReadyH.nil
          go_simp
          go_at_call 61
          refine hev.mono ?_
          rintro e w2 ⟨ve, rfl, hE2, hb2⟩
          have Q2 := HQ.out.keep hb2
          have u0 := cell_later hb2 v0
          have heq := eq_events hE2 (HE9.out.below hb2) (by have := HLD.out; omega)
          have HQ2 := hideIt Q2
          clear hb2 Q2 hE2 hev
          clear hHeld
          refine hK'.out _ _ u0 (fun hHeld => ?_)
          clear hK' K'
          try simp only [Act.put, List.setIfInBounds_toArray, List.set_cons_zero, List.set_cons_succ]
          refine wpAnyH_ready (rs := [14]) (by kernel_rfl) (by simp) ?_
          refine AllReadyH.cons (o := { dst := some 125, op := Go.Op.call { callee := Go.Callee.value (Go.Operand.func 59), args := #[Go.Operand.tmp 112, Go.Operand.tmp 124], argTypes := #[111, 111] }, type := 4, pos := _, after := #[{ on := 1, ground := Go.Ground.data }, { on := 13, ground := Go.Ground.data }, { on := 1, ground := Go.Ground.chain }], guard := none }) rfl (fun K' hK' => ?_) AllReadyH.nil
          go_simp
          go_at_call 59
          refine heq.mono ?_
          rintro e w3 ⟨rfl, hb3⟩
          have Q3 := HQ2.out.keep hb3
          have x0 := cell_later hb3 u0
          have HQ3 := hideIt Q3
          clear hb3 Q3 heq
          clear hHeld
          refine hK'.out _ _ x0 (fun hHeld => ?_)
          clear hK' K'
          try simp only [Act.put, List.setIfInBounds_toArray, List.set_cons_zero, List.set_cons_succ]
          refine wpAnyH_take (i := 15) (oi := { dst := some 126, op := Go.Op.unOp Go.UnOp.not 4 (Go.Operand.tmp 125), type := 4, pos := _, after := #[{ on := 14, ground := Go.Ground.data }], guard := none }) (v := ?vv15042) rfl (by kernel_rfl) (by kernel_rfl) (by kernel_rfl) (fun _ _ _ h => h) (Or.inl ⟨by rfl, ?hy15042⟩) (by assumption) ?tk15042
          case hy15042 => (intro w hSw; (try dsimp only at hSw); go_simp; (try with_reducible rfl))
          try simp only [Act.put, List.setIfInBounds_toArray, List.set_cons_zero, List.set_cons_succ]
          refine wpAnyH_done (by kernel_rfl) ?_ _
          go_wp2
          go_meet
          case rel => exact ⟨rfl, HQ3.out⟩
        case rest =>
        clear v0 hsl HE9 HLD hev HQ
        obtain ⟨rfl, H⟩ := hcut
        have hx : wc.cell? ⟨C, 0, none⟩ = some (.slice pv m cap) ∧ Calls Tryz.prog 62 #[.pointer (some ⟨R, 0, none⟩)] (World.drew wc) (fun e w' => e = .returned (.int .u64 (m : Int)) ∧ w' = World.drew wc) ∧ Calls Tryz.prog 63 #[.pointer (some ⟨R, 0, none⟩)] (World.drew wc) (fun e w' => e = .returned (.int .u64 (dl : Int)) ∧ w' = (World.drew wc).drew) := by
          obtain ⟨pv', cap', hV', u0, _, RG, q0, q8⟩ := H.col
          rw [HVV.out] at hV'
          simp at hV'
          obtain ⟨rfl, rfl⟩ := hV'
          rw [ETC.out, HM.out] at u0
          obtain ⟨_, _, _, _, _, RG2, _⟩ := H.drew.col
          have e1 := total_any RG2
          have e2 := dropped_any RG2 ⟨q0, q8⟩ (by rw [HM.out]; omega)
          rw [ETR.out, HM.out] at e1
          rw [ETR.out, ETN.out, HM.out, ← HKP.out, HDL.out] at e2
          exact ⟨u0, e1, e2⟩
        obtain ⟨v0, htot, hdrp⟩ := hx
        have HQ := hideIt H
        clear H
        go_upto_region 25 with fail
        go_cut [148] (fun a148 wd => a148 = .bool false ∧ LT w wd B mb B2 mb2 T t (4 * i) ν τ σ Λ t (4 * i) ν τ σ)
        case first =>
          refine wp_region_held_drew (S := (fun w' => w'.cell? ⟨C, 0, none⟩ = some (.slice pv m cap))) (by kernel_rfl) v0 (fun hHeld => ?_)
          refine wpAnyH_take (i := 0) (oi := { dst := some 127, op := Go.Op.move (Go.Operand.tmp 3), type := 108, pos := _, after := #[], guard := none }) (v := ?vv15043) rfl (by kernel_rfl) (by kernel_rfl) (by kernel_rfl) (fun _ _ _ h => h) (Or.inl ⟨by rfl, ?hy15043⟩) (by assumption) ?tk15043
          case hy15043 => (intro w hSw; (try dsimp only at hSw); go_simp; (try with_reducible rfl))
          try simp only [Act.put, List.setIfInBounds_toArray, List.set_cons_zero, List.set_cons_succ]
          refine wpAnyH_take (i := 2) (oi := { dst := some 129, op := Go.Op.move (Go.Operand.tmp 4), type := 110, pos := _, after := #[], guard := none }) (v := ?vv15044) rfl (by kernel_rfl) (by kernel_rfl) (by kernel_rfl) (fun _ _ _ h => h) (Or.inl ⟨by rfl, ?hy15044⟩) (by assumption) ?tk15044
          case hy15044 => (intro w hSw; (try dsimp only at hSw); go_simp; (try with_reducible rfl))
          try simp only [Act.put, List.setIfInBounds_toArray, List.set_cons_zero, List.set_cons_succ]
          refine wpAnyH_take (i := 3) (oi := { dst := some 130, op := Go.Op.nilCheck (Go.Operand.tmp 129), type := 0, pos := _, after := #[{ on := 2, ground := Go.Ground.data }], guard := none }) (v := ?vv15045) rfl (by kernel_rfl) (by kernel_rfl) (by kernel_rfl) (fun _ _ _ h => h) (Or.inl ⟨by rfl, ?hy15045⟩) (by assumption) ?tk15045
          case hy15045 => (intro w hSw; (try dsimp only at hSw); go_simp; (try with_reducible rfl))
          try simp only [Act.put, List.setIfInBounds_toArray, List.set_cons_zero, List.set_cons_succ]
          refine wpAnyH_take (i := 4) (oi := { dst := some 131, op := Go.Op.fieldAddr 115 (Go.Operand.tmp 130) 0, type := 0, pos := _, after := #[{ on := 3, ground := Go.Ground.data }], guard := none }) (v := ?vv15046) rfl (by kernel_rfl) (by kernel_rfl) (by kernel_rfl) (fun _ _ _ h => h) (Or.inl ⟨by rfl, ?hy15046⟩) (by assumption) ?tk15046
          case hy15046 => (intro w hSw; (try dsimp only at hSw); go_simp; (try with_reducible rfl))
          try simp only [Act.put, List.setIfInBounds_toArray, List.set_cons_zero, List.set_cons_succ]
          refine wpAnyH_take (i := 5) (oi := { dst := some 132, op := Go.Op.load 111 (Go.Operand.tmp 131), type := 111, pos := _, after := #[{ on := 4, ground := Go.Ground.data }], guard := none }) (v := ?vv15047) rfl (by kernel_rfl) (by kernel_rfl) (by kernel_rfl) (fun _ _ _ h => h) (Or.inl ⟨by rfl, ?hy15047⟩) (by assumption) ?tk15047
          case hy15047 => (intro w hSw; (try dsimp only at hSw); go_simp; (try with_reducible rfl))
          try simp only [Act.put, List.setIfInBounds_toArray, List.set_cons_zero, List.set_cons_succ]
          refine wpAnyH_take (i := 6) (oi := { dst := some 133, op := Go.Op.call { callee := Go.Callee.builtin Go.Builtin.len, args := #[Go.Operand.tmp 132], argTypes := #[111] }, type := 3, pos := _, after := #[{ on := 5, ground := Go.Ground.data }], guard := none }) (v := ?vv15048) rfl (by kernel_rfl) (by kernel_rfl) (by kernel_rfl) (fun _ _ _ h => h) (Or.inl ⟨by rfl, ?hy15048⟩) (by assumption) ?tk15048
          case hy15048 => (intro w hSw; (try dsimp only at hSw); go_simp; (try with_reducible rfl))
          try simp only [Act.put, List.setIfInBounds_toArray, List.set_cons_zero, List.set_cons_succ]
          refine wpAnyH_take (i := 7) (oi := { dst := some 134, op := Go.Op.convert 3 28 (Go.Operand.tmp 133), type := 28, pos := _, after := #[{ on := 6, ground := Go.Ground.data }], guard := none }) (v := ?vv15049) rfl (by kernel_rfl) (by kernel_rfl) (by kernel_rfl) (fun _ _ _ h => h) (Or.inl ⟨by rfl, ?hy15049⟩) (by assumption) ?tk15049
          case hy15049 => (intro w hSw; (try dsimp only at hSw); go_simp; (try with_reducible rfl))
          try simp only [Act.put, List.setIfInBounds_toArray, List.set_cons_zero, List.set_cons_succ]
          refine wpAnyH_ready (rs := [1]) (by kernel_rfl) (by simp) ?_
          refine AllReadyH.cons (o := { dst := some 128, op := Go.Op.call { callee := Go.Callee.value (Go.Operand.func 62), args := #[Go.Operand.tmp 127], argTypes := #[108] }, type := 28, pos := _, after := #[{ on := 0, ground := Go.Ground.data }], guard := none }) rfl (fun K' hK' => ?_) AllReadyH.nil
          go_simp
          go_at_call 62
          refine htot.mono ?_
          rintro e w2 ⟨rfl, rfl⟩
          clear hHeld
          refine hK'.out _ _ v0 (fun hHeld => ?_)
          clear hK' K'
          try simp only [Act.put, List.setIfInBounds_toArray, List.set_cons_zero, List.set_cons_succ]
          refine wpAnyH_take (i := 8) (oi := { dst := some 135, op := Go.Op.binOp Go.BinOp.neq 28 (Go.Operand.tmp 128) (Go.Operand.tmp 134) 28, type := 4, pos := _, after := #[{ on := 1, ground := Go.Ground.data }, { on := 7, ground := Go.Ground.data }], guard := none }) (v := ?vv15050) rfl (by kernel_rfl) (by kernel_rfl) (by kernel_rfl) (fun _ _ _ h => h) (Or.inl ⟨by rfl, ?hy15050⟩) (by assumption) ?tk15050
          case hy15050 => (intro w hSw; (try dsimp only at hSw); go_simp; (try with_reducible rfl))
          try simp only [Act.put, List.setIfInBounds_toArray, List.set_cons_zero, List.set_cons_succ]
          refine wpAnyH_take (i := 9) (oi := { dst := some 136, op := Go.Op.move (Go.Operand.tmp 135), type := 4, pos := _, after := #[{ on := 8, ground := Go.Ground.data }, { on := 1, ground := Go.Ground.chain }], guard := none }) (v := ?vv15051) rfl (by kernel_rfl) (by kernel_rfl) (by kernel_rfl) (fun _ _ _ h => h) (Or.inl ⟨by rfl, ?hy15051⟩) (by assumption) ?tk15051
          case hy15051 => (intro w hSw; (try dsimp only at hSw); go_simp; (try with_reducible rfl))
          try simp only [Act.put, List.setIfInBounds_toArray, List.set_cons_zero, List.set_cons_succ]
          refine wpAnyH_take (i := 10) (oi := { dst := some 137, op := Go.Op.move (Go.Operand.tmp 3), type := 108, pos := _, after := #[{ on := 9, ground := Go.Ground.guard }], guard := some (9, false) }) (v := ?vv15052) rfl (by kernel_rfl) (by kernel_rfl) (by kernel_rfl) (fun _ _ _ h => h) (Or.inl ⟨by rfl, ?hy15052⟩) (by assumption) ?tk15052
          case hy15052 => (intro w hSw; (try dsimp only at hSw); go_simp; (try with_reducible rfl))
          try simp only [Act.put, List.setIfInBounds_toArray, List.set_cons_zero, List.set_cons_succ]
          refine wpAnyH_take (i := 12) (oi := { dst := some 139, op := Go.Op.move (Go.Operand.tmp 4), type := 110, pos := _, after := #[{ on := 9, ground := Go.Ground.guard }], guard := some (9, false) }) (v := ?vv15053) rfl (by kernel_rfl) (by kernel_rfl) (by kernel_rfl) (fun _ _ _ h => h) (Or.inl ⟨by rfl, ?hy15053⟩) (by assumption) ?tk15053
          case hy15053 => (intro w hSw; (try dsimp only at hSw); go_simp; (try with_reducible rfl))
          try simp only [Act.put, List.setIfInBounds_toArray, List.set_cons_zero, List.set_cons_succ]
          refine wpAnyH_take (i := 13) (oi := { dst := some 140, op := Go.Op.nilCheck (Go.Operand.tmp 139), type := 0, pos := _, after := #[{ on := 12, ground := Go.Ground.data }, { on := 9, ground := Go.Ground.guard }], guard := some (9, false) }) (v := ?vv15054) rfl (by kernel_rfl) (by kernel_rfl) (by kernel_rfl) (fun _ _ _ h => h) (Or.inl ⟨by rfl, ?hy15054⟩) (by assumption) ?tk15054
          case hy15054 => (intro w hSw; (try dsimp only at hSw); go_simp; (try with_reducible rfl))
          try simp only [Act.put, List.setIfInBounds_toArray, List.set_cons_zero, List.set_cons_succ]
          refine wpAnyH_take (i := 14) (oi := { dst := some 141, op := Go.Op.fieldAddr 115 (Go.Operand.tmp 140) 0, type := 0, pos := _, after := #[{ on := 13, ground := Go.Ground.data }, { on := 9, ground := Go.Ground.guard }], guard := some (9, false) }) (v := ?vv15055) rfl (by kernel_rfl) (by kernel_rfl) (by kernel_rfl) (fun _ _ _ h => h) (Or.inl ⟨by rfl, ?hy15055⟩) (by assumption) ?tk15055
          case hy15055 => (intro w hSw; (try dsimp only at hSw); go_simp; (try with_reducible rfl))
          try simp only [Act.put, List.setIfInBounds_toArray, List.set_cons_zero, List.set_cons_succ]
          refine wpAnyH_take (i := 15) (oi := { dst := some 142, op := Go.Op.load 111 (Go.Operand.tmp 141), type := 111, pos := _, after := #[{ on := 14, ground := Go.Ground.data }, { on := 9, ground := Go.Ground.guard }], guard := some (9, false) }) (v := ?vv15056) rfl (by kernel_rfl) (by kernel_rfl) (by kernel_rfl) (fun _ _ _ h => h) (Or.inl ⟨by rfl, ?hy15056⟩) (by assumption) ?tk15056
          case hy15056 => (intro w hSw; (try dsimp only at hSw); go_simp; (try with_reducible rfl))
          try simp only [Act.put, List.setIfInBounds_toArray, List.set_cons_zero, List.set_cons_succ]
          refine wpAnyH_take (i := 16) (oi := { dst := some 143, op := Go.Op.call { callee := Go.Callee.builtin Go.Builtin.len, args := #[Go.Operand.tmp 142], argTypes := #[111] }, type := 3, pos := _, after := #[{ on := 15, ground := Go.Ground.data }, { on := 9, ground := Go.Ground.guard }], guard := some (9, false) }) (v := ?vv15057) rfl (by kernel_rfl) (by kernel_rfl) (by kernel_rfl) (fun _ _ _ h => h) (Or.inl ⟨by rfl, ?hy15057⟩) (by assumption) ?tk15057
          case hy15057 => (intro w hSw; (try dsimp only at hSw); go_simp; (try with_reducible rfl))
          try simp only [Act.put, List.setIfInBounds_toArray, List.set_cons_zero, List.set_cons_succ]
          refine wpAnyH_take (i := 17) (oi := { dst := some 144, op := Go.Op.move (Go.Operand.tmp 15), type := 3, pos := _, after := #[{ on := 9, ground := Go.Ground.guard }], guard := some (9, false) }) (v := ?vv15058) rfl (by kernel_rfl) (by kernel_rfl) (by kernel_rfl) (fun _ _ _ h => h) (Or.inl ⟨by rfl, ?hy15058⟩) (by assumption) ?tk15058
          case hy15058 => (intro w hSw; (try dsimp only at hSw); go_simp; (try with_reducible rfl))
          try simp only [Act.put, List.setIfInBounds_toArray, List.set_cons_zero, List.set_cons_succ]
          refine wpAnyH_take (i := 18) (oi := { dst := some 145, op := Go.Op.binOp Go.BinOp.sub 3 (Go.Operand.tmp 143) (Go.Operand.tmp 144) 3, type := 3, pos := _, after := #[{ on := 16, ground := Go.Ground.data }, { on := 17, ground := Go.Ground.data }, { on := 9, ground := Go.Ground.guard }], guard := some (9, false) }) (v := ?vv15059) rfl (by kernel_rfl) (by kernel_rfl) (by kernel_rfl) (fun _ _ _ h => h) (Or.inl ⟨by rfl, ?hy15059⟩) (by assumption) ?tk15059
          case hy15059 => (intro w hSw; (try dsimp only at hSw); go_simp; (try with_reducible rfl))
          try simp only [Act.put, List.setIfInBounds_toArray, List.set_cons_zero, List.set_cons_succ]
          refine wpAnyH_take (i := 19) (oi := { dst := some 146, op := Go.Op.convert 3 28 (Go.Operand.tmp 145), type := 28, pos := _, after := #[{ on := 18, ground := Go.Ground.data }, { on := 9, ground := Go.Ground.guard }], guard := some (9, false) }) (v := ?vv15060) rfl (by kernel_rfl) (by kernel_rfl) (by kernel_rfl) (fun _ _ _ h => h) (Or.inl ⟨by rfl, ?hy15060⟩) (by assumption) ?tk15060
          case hy15060 => (intro w hSw; (try dsimp only at hSw); go_simp; (try with_reducible rfl))
          try simp only [Act.put, List.setIfInBounds_toArray, List.set_cons_zero, List.set_cons_succ]
          refine wpAnyH_ready (rs := [11]) (by kernel_rfl) (by simp) ?_
          refine AllReadyH.cons (o := { dst := some 138, op := Go.Op.call { callee := Go.Callee.value (Go.Operand.func 63), args := #[Go.Operand.tmp 137], argTypes := #[108] }, type := 28, pos := _, after := #[{ on := 10, ground := Go.Ground.data }, { on := 9, ground := Go.Ground.chain }, { on := 9, ground := Go.Ground.guard }], guard := some (9, false) }) rfl (fun K' hK' => ?_) AllReadyH.nil
          go_simp
          go_at_call 63
          refine hdrp.mono ?_
          rintro e w2 ⟨rfl, rfl⟩
          clear hHeld
          refine hK'.out _ _ v0 (fun hHeld => ?_)
          clear hK' K'
          try simp only [Act.put, List.setIfInBounds_toArray, List.set_cons_zero, List.set_cons_succ]
          refine wpAnyH_take (i := 20) (oi := { dst := some 147, op := Go.Op.binOp Go.BinOp.neq 28 (Go.Operand.tmp 138) (Go.Operand.tmp 146) 28, type := 4, pos := _, after := #[{ on := 11, ground := Go.Ground.data }, { on := 19, ground := Go.Ground.data }, { on := 9, ground := Go.Ground.guard }], guard := some (9, false) }) (v := ?vv15061) rfl (by kernel_rfl) (by kernel_rfl) (by kernel_rfl) (fun _ _ _ h => h) (Or.inl ⟨by rfl, ?hy15061⟩) (by assumption) ?tk15061
          case hy15061 => (intro w hSw; (try dsimp only at hSw); go_simp; (try with_reducible rfl))
          try simp only [Act.put, List.setIfInBounds_toArray, List.set_cons_zero, List.set_cons_succ]
          refine wpAnyH_take (i := 21) (oi := { dst := some 148, op := Go.Op.pick (Go.Operand.tmp 136) (Go.Operand.const (Go.Value.bool true)) (Go.Operand.tmp 147), type := 4, pos := _, after := #[{ on := 9, ground := Go.Ground.data }, { on := 20, ground := Go.Ground.data }], guard := none }) (v := ?vv15062) rfl (by kernel_rfl) (by kernel_rfl) (by kernel_rfl) (fun _ _ _ h => h) (Or.inl ⟨by rfl, ?hy15062⟩) (by assumption) ?tk15062
          case hy15062 => (intro w hSw; (try dsimp only at hSw); go_simp; (try with_reducible rfl))
          try simp only [Act.put, List.setIfInBounds_toArray, List.set_cons_zero, List.set_cons_succ]
          refine wpAnyH_done (by kernel_rfl) ?_ _
          go_wp2
          go_meet
          case rel => exact ⟨rfl, HQ.out.keep (below_dr (below_dr (Below.refl _ _)))⟩
        case rest =>
        clear v0 htot hdrp HQ hwd hwu hwv
        obtain ⟨rfl, H⟩ := hcut
        go_wp2_with fail
        go_loopg [16] 11 (fun gg v wr => ∃ k : Nat, k + gg = 11 ∧ v = .int .u8 (k : Int) ∧ LT w wr B mb B2 mb2 T t (4 * i) ν τ σ Λ t (4 * i) ν τ σ)
        case atStart => exact ⟨0, by omega, rfl, H⟩
        case round =>
          clear H
          obtain ⟨k, hk, rfl, H⟩ := hrel
          by_cases hk11 : k < 11
          · have k0 : (0 : Int) ≤ k := by omega
            have k1 : (k : Int) < 11 := by omega
            have hx : wr.cell? ⟨C, 0, none⟩ = some (.slice pv m cap) := by
              obtain ⟨pv', cap', hV', u0, _⟩ := H.col
              rw [HVV.out] at hV'
              simp at hV'
              obtain ⟨rfl, rfl⟩ := hV'
              rw [ETC.out, HM.out] at u0
              exact u0
            have HQ := hideIt H
            clear H
            go_wp2_with fail
            clear hx
            go_loopg [158, 17] m (fun gg v158 v17 wr => ∃ j : Nat, j + gg = m ∧ v158 = .int .i64 (j : Int) ∧ v17 = .int .u64 (cntK (Λ.l.take j) k) ∧ LT w wr B mb B2 mb2 T t (4 * i) ν τ σ Λ t (4 * i) ν τ σ)
            case atStart => exact ⟨0, by omega, rfl, rfl, HQ.out⟩
            case round =>
              clear HQ
              obtain ⟨j, hj, rfl, rfl, H⟩ := hrel
              obtain ⟨cv, HCV⟩ : ∃ cv, Hid (cntK (Λ.l.take j) k = cv) := ⟨_, hideIt rfl⟩
              rw [HCV.out]
              by_cases hjm : j < m
              · have j0 : (0 : Int) ≤ j := by omega
                have j1 : (j : Int) < (m : Int) := by omega
                obtain ⟨e, he⟩ : ∃ e, Λ.l[j]? = some e := ⟨Λ.l[j]'(by have := HM.out; omega), List.getElem?_eq_getElem (by have := HM.out; omega)⟩
                have hx : ∃ g off, pv = some ⟨g, off, none⟩ ∧ Ev9 wr g (off + j * 9) e := by
                  obtain ⟨pv', cap', hV', _, hown, _⟩ := H.col
                  rw [HVV.out] at hV'
                  simp at hV'
                  obtain ⟨rfl, rfl⟩ := hV'
                  obtain ⟨p', c', e1, E⟩ := EvIn.of_own hown
                  simp only [Value.slice.injEq] at e1
                  obtain ⟨rfl, _, rfl⟩ := e1
                  rcases E with E | ⟨g, off, rfl, E⟩
                  · rw [E] at he; simp at he
                  · exact ⟨g, off, rfl, E j e he⟩
                obtain ⟨g, off, rfl, ⟨a0, a1, a2, a3, a4, a5, a6, a7, a8⟩⟩ := hx
                have hcv : 0 ≤ cv ∧ cv ≤ 999999000 := by
                  have h1 := cntK_le (Λ.l.take j) k
                  rw [HCV.out, List.length_take, HM.out] at h1
                  omega
                have hw1 : IntKind.u64.wrap (cv + 1) = cv + 1 := by rw [IntKind.wrap_u64]; omega
                have hct := cntK_take he k
                rw [HCV.out] at hct
                have HQ := hideIt H
                clear H he
                by_cases q : e.kd = (k : Int)
                · have qb : (e.kd == (k : Int)) = true := by simpa using q
                  rw [if_pos q] at hct
                  have HCT := hideIt hct
                  clear hct q
                  go_wp2
                  go_roundg (m - (j + 1))
                  case measure => omega
                  case rel => exact ⟨j + 1, by omega, by go_num, by rw [HCT.out], HQ.out.keep (one_alloc _ _)⟩
                · have qb : (e.kd == (k : Int)) = false := by simpa using q
                  rw [if_neg q, Int.add_zero] at hct
                  have HCT := hideIt hct
                  clear hct q
                  go_wp2
                  go_roundg (m - (j + 1))
                  case measure => omega
                  case rel => exact ⟨j + 1, by omega, by go_num, by rw [HCT.out], HQ.out.keep (one_alloc _ _)⟩
              · have e : j = m := by omega
                subst e
                have hx : Calls Tryz.prog 64 #[.pointer (some ⟨R, 0, none⟩), .int .u8 (k : Int)] wr fun e w' => e = .returned (.int .u64 cv) ∧ w' = wr := by
                  obtain ⟨_, _, _, _, _, RG, _⟩ := H.col
                  have := count_any RG hk11
                  have e2 : Λ.l.take j = Λ.l := List.take_of_length_le (by rw [HM.out]; exact Nat.le_refl _)
                  have e3 := HCV.out
                  rw [e2] at e3
                  rw [ETR.out, e3] at this
                  exact this
                have HQ := hideIt H
                clear H
                have hw8 : IntKind.u8.wrap ((k : Int) + 1) = (k : Int) + 1 := by
                  have : k = 0 ∨ k = 1 ∨ k = 2 ∨ k = 3 ∨ k = 4 ∨ k = 5 ∨ k = 6 ∨ k = 7 ∨ k = 8 ∨ k = 9 ∨ k = 10 := by omega
                  rcases this with rfl | rfl | rfl | rfl | rfl | rfl | rfl | rfl | rfl | rfl | rfl <;> rfl
                go_wp2_with fail
                refine hx.mono ?_
                rintro e w2 ⟨rfl, rfl⟩
                clear hx
                go_wp2
                go_roundg (11 - (k + 1))
                case measure => omega
                case rel => exact ⟨k + 1, by omega, by go_num, HQ.out⟩
          · have e : k = 11 := by omega
            subst e
            have HQ := hideIt H
            clear H
            go_wp2
            go_ret
            exact ⟨rfl, HQ.out.b⟩
  · rw [decide_eq_false hb] at hsm
    go_enter Tryz.func15, Tryz.ntmps15
    go_wp2_with fail
    refine hsm.mono ?_
    rintro e w ⟨rfl, rfl⟩
    go_wp2
    go_ret
    exact ⟨rfl, Below.refl _ _⟩
end Go.Proofs.Qxb6500877aGreatDoor
