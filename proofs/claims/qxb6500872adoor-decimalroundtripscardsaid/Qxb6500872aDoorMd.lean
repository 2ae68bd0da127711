import Derived.Test.Qxb6500872aDoorMc
set_option linter.unusedVariables false
namespace Go.Proofs.Qxb6500872aDoor
open Go.RowKit

/-- What a step does, whatever it is. -/
def StepAny : Prop := ∀ {k d d2 a b wd : Int} {ng : Bool} {lp : Option Addr} {ln lc : Nat} {s : ByteArray} {w : World} {B K : Nat} {R : Nat → Reg} {p0 p1 : Addr} {E2 : Value},
    Regs w B K R → K ≤ 80000 → Sents w p0 p1 E2 → 128 ≤ K → (-9223372036854775808 ≤ wd ∧ wd < 9223372036854775808) → (ln ≤ 128 → ∃ zs, Limbs w lp ln ln zs) →
    Calls Tryd.prog 5 #[.pointer (some ⟨B, 0, none⟩), .agg #[.int .i64 k, .int .i64 d, .int .i64 d2, .int .i64 a, .int .i64 b, .bool ng, .slice lp ln lc, .string s, .int .i64 wd]] w fun e w' => StepPost w B K k d s e w'

set_option maxRecDepth 20000 in
set_option maxHeartbeats 8000000 in
theorem main_of (HST : Hid StepAny) {p : Option Addr} {n c : Nat} {L : List OpR} {w : World} {p0 p1 : Addr} {E2 : Value} (h : OpsAt w p L) (hn : L.length = n) (hS : Hid (Sents w p0 p1 E2))
    (hwd : Hid (∀ o ∈ L, -9223372036854775808 ≤ o.wd ∧ o.wd < 9223372036854775808)) (hLm : Hid (∀ o ∈ L, o.ln ≤ 128 → ∃ zs, Limbs w o.lp o.ln o.ln zs)) :
    Calls Tryd.prog 3 #[.slice p n c] w fun e w' => e = .returned (.bool true) ∧ Below w.heap.size w w' := by
  go_enter Tryd.func3, Tryd.ntmps3
  go_wp2_with fail
  refine (small_any h hn).mono ?_
  rintro e w1 ⟨⟨r, rfl, hr⟩, rfl⟩
  cases r with
  | false =>
    go_wp2
    go_ret
    exact ⟨rfl, Below.refl _ _⟩
  | true =>
    have hn' := hr rfl
    clear hr
    go_wp2
    go_loopg [18] n (fun g i wr => OInv w1 n g i wr)
    case atStart => exact ⟨0, _, by omega, rfl, start_regs w1, one_alloc _ _⟩
    case round =>
      obtain ⟨k, R, hk, rfl, hR0, hB⟩ := hrel
      have HR : Hid (Regs wr w1.heap.size (128 + k) R) := hR0
      have hlt : w1.heap.size < wr.heap.size := World.block_lt_of_cell? _ _ (hR0 0 (by omega)).1
      clear hR0
      by_cases hkn : k < n
      · obtain ⟨b, off, rfl, hop⟩ : ∃ b off, p = some ⟨b, off, none⟩ ∧ ∀ j (h : j < L.length), OpAt w1 b (off + j * 9) L[j] := by
          rcases h with h0 | h0
          · rw [h0] at hn; simp at hn; omega
          · exact h0
        have hkL : k < L.length := by omega
        have hmem : L[k] ∈ L := List.getElem_mem hkL
        have hw := hwd.out _ hmem
        have hl := hLm.out _ hmem
        have hq := hop k hkL
        generalize L[k] = o at hw hl hq hmem
        obtain ⟨q0, q1, q2, q3, q4, q5, q6, q7, q8⟩ := hq
        have r0 := cell_later hB q0
        have r1 := cell_later hB q1
        have r2 := cell_later hB q2
        have r3 := cell_later hB q3
        have r4 := cell_later hB q4
        have r5 := cell_later hB q5
        have r6 := cell_later hB q6
        have r7 := cell_later hB q7
        have r8 := cell_later hB q8
        clear q0 q1 q2 q3 q4 q5 q6 q7 q8 hop hmem hkL
        have Hw : Hid (-9223372036854775808 ≤ o.wd ∧ o.wd < 9223372036854775808) := hw
        have Hl : Hid (o.ln ≤ 128 → ∃ zs, Limbs w1 o.lp o.ln o.ln zs) := hl
        clear hw hl
        have ik0 : (0 : Int) ≤ k := by omega
        have ik1 : (k : Int) < n := by omega
        go_upto_region 7 with fail
        go_cut [5, 6] (fun s5 s6 wc => After w1 (128 + k) o s5 s6 wc)
        case first =>
          go_wp2_with fail
          refine (HST.out (HR.out.below (one_alloc _ _)) (by omega) (hS.out.below (chain hB (one_alloc _ _))) (by omega) Hw.out (fun h => limbs_on (Hl.out h) (chain hB (one_alloc _ _)))).mono ?_
          rintro e w2 ⟨code, c1, s2, v3, b4, n5, rfl, ⟨R', hR', hpar⟩, hBt⟩
          have g0 : w2.cell? ⟨wr.heap.size, 0, none⟩ = some (.int .i64 o.k) := hBt.cell (by simp) (by omega)
          have g1 : w2.cell? ⟨wr.heap.size, 1, none⟩ = some (.int .i64 o.d) := hBt.cell (by simp) (by omega)
          have g7 : w2.cell? ⟨wr.heap.size, 7, none⟩ = some (.string o.s) := hBt.cell (by simp) (by omega)
          have hB2 := below_but (chain hB (one_alloc _ _)) hBt (Nat.le_refl _)
          have HP : Hid (Parsed o code R') := hpar
          have HR' : Hid (Regs w2 w1.heap.size (128 + k + 1) R') := hR'
          clear hpar hR' hBt r0 r1 r2 r3 r4 r5 r6 r7 r8
          go_wp2
          go_meet
          case rel => exact ⟨_, _, code, R', rfl, rfl, cell_later (one_alloc _ _) g0, cell_later (one_alloc _ _) g1, cell_later (one_alloc _ _) g7, by simp, HR'.out.below (one_alloc _ _), chain hB2 (one_alloc _ _), HP.out⟩
        case rest =>
          clear HR r0 r1 r2 r3 r4 r5 r6 r7 r8 hlt
          obtain ⟨b5, b6, code, R', rfl, rfl, g0, g1, g7, g6, hR', hB', hpar⟩ := hcut
          have HP : Hid (Parsed o code R') := hpar
          have HR : Hid (Regs wc w1.heap.size (128 + k + 1) R') := hR'
          clear hpar
          have x0 : wc.cell? ⟨w1.heap.size, 0, none⟩ = some (.bool (R' 0).m) := (hR' 0 (by omega)).1
          have x1 : wc.cell? ⟨w1.heap.size, 1, none⟩ = some (.slice (R' 0).p (R' 0).k (R' 0).c) := (hR' 0 (by omega)).2.1
          have x2 : wc.cell? ⟨w1.heap.size, 2, none⟩ = some (.bool (R' 1).m) := (hR' 1 (by omega)).1
          have x3 : wc.cell? ⟨w1.heap.size, 3, none⟩ = some (.slice (R' 1).p (R' 1).k (R' 1).c) := (hR' 1 (by omega)).2.1
          have x4 : wc.cell? ⟨w1.heap.size, 4, none⟩ = some (.bool (R' 2).m) := (hR' 2 (by omega)).1
          have x5 : wc.cell? ⟨w1.heap.size, 5, none⟩ = some (.slice (R' 2).p (R' 2).k (R' 2).c) := (hR' 2 (by omega)).2.1
          have x6 : wc.cell? ⟨w1.heap.size, 6, none⟩ = some (.bool (R' 3).m) := (hR' 3 (by omega)).1
          have x7 : wc.cell? ⟨w1.heap.size, 7, none⟩ = some (.slice (R' 3).p (R' 3).k (R' 3).c) := (hR' 3 (by omega)).2.1
          have x8 : wc.cell? ⟨w1.heap.size, 8, none⟩ = some (.bool (R' 4).m) := (hR' 4 (by omega)).1
          have x9 : wc.cell? ⟨w1.heap.size, 9, none⟩ = some (.slice (R' 4).p (R' 4).k (R' 4).c) := (hR' 4 (by omega)).2.1
          have x10 : wc.cell? ⟨w1.heap.size, 10, none⟩ = some (.bool (R' 5).m) := (hR' 5 (by omega)).1
          have x11 : wc.cell? ⟨w1.heap.size, 11, none⟩ = some (.slice (R' 5).p (R' 5).k (R' 5).c) := (hR' 5 (by omega)).2.1
          have x12 : wc.cell? ⟨w1.heap.size, 12, none⟩ = some (.bool (R' 6).m) := (hR' 6 (by omega)).1
          have x13 : wc.cell? ⟨w1.heap.size, 13, none⟩ = some (.slice (R' 6).p (R' 6).k (R' 6).c) := (hR' 6 (by omega)).2.1
          have x14 : wc.cell? ⟨w1.heap.size, 14, none⟩ = some (.bool (R' 7).m) := (hR' 7 (by omega)).1
          have x15 : wc.cell? ⟨w1.heap.size, 15, none⟩ = some (.slice (R' 7).p (R' 7).k (R' 7).c) := (hR' 7 (by omega)).2.1
          clear hR'
          go_upto_region 8 with fail
          go_cut [28, 29] (fun s28 s29 wd => s28 = .agg (regsV R') ∧ s29 = .int .i64 0 ∧ wd = wc)
          case first =>
            go_wp2
            go_meet
            case rel => exact ⟨rfl, rfl, rfl⟩
          case rest =>
            obtain ⟨rfl, rfl, hwc⟩ := hcut
            subst hwc
            clear x0 x1 x2 x3 x4 x5 x6 x7 x8 x9 x10 x11 x12 x13 x14 x15
            go_wp2
            go_loopg [29] 8 (fun g i wr => IInv wc g i wr)
            case atStart => exact ⟨0, by omega, rfl, Below.refl _ _⟩
            case round =>
              obtain ⟨j, hj, rfl, hBi⟩ := hrel
              by_cases hj8 : j < 8
              · have hix : ∀ w : World, (Instr.index 29 (.agg (regsV R')) (.int .i64 (j : Int))).run Tryd.prog w = .ok (.agg #[.bool (R' j).m, .slice (R' j).p (R' j).k (R' j).c]) w := idx_reg R' hj8
                obtain ⟨_, _, _, _, hXL, hXk⟩ := HR.out j hj8
                have hX := hXL.below hBi
                generalize R' j = x at hix hX hXk hXL
                clear hXL
                have hXn : x.k ≤ 100000 := by omega
                have HX : Hid (Limbs wr x.p x.k x.c x.zs) := hX
                have hE := (hS.out.below (chain hB' hBi)).c1
                have HE : Hid (wr.cell? ⟨1, 0, none⟩ = some (.iface 85 (.pointer (some p1)))) := hE
                have ij0 : (0 : Int) ≤ j := by omega
                have ij1 : (j : Int) < 8 := by omega
                clear hX hE hXk
                go_upto_region 11 with fail
                go_cut [8, 9, 10] (fun s8 s9 s10 wd => ReadAt wc x s8 s9 s10 wd)
                case first =>
                  go_wp2_with fail
                  refine (istring_txt (HX.out.below (one_alloc _ _)) hXn).mono ?_
                  rintro e w4 ⟨⟨s, rfl, hT⟩, hb4⟩
                  have HT : Hid (TextOf x.m x.zs x.k s) := hT
                  have hc0 : w4.cell? ⟨wr.heap.size, 0, none⟩ = some (.bool x.m) := cell_later hb4 (by simp)
                  have hc1 : w4.cell? ⟨wr.heap.size, 1, none⟩ = some (.slice x.p x.k x.c) := cell_later hb4 (by simp)
                  clear hT
                  go_wp2_with fail
                  refine (parse_back HT.out HX.out.rng HX.out.len hXn (cell_later (chain (one_alloc _ _) hb4) HE.out)).mono ?_
                  rintro e w5 ⟨⟨p', zs, rfl, hz, hnz, heq⟩, hb5⟩
                  have hd0 := cell_later hb5 hc0
                  have hd1 := cell_later hb5 hc1
                  have HK : Hid (BackOk w5 x p' (nl x.zs x.k) (x.m && decide (0 < nl x.zs x.k))) := ⟨HX.out.below (chain (chain (one_alloc _ _) hb4) hb5), rfl, rfl, zs, hz, hnz, heq⟩
                  generalize nl x.zs x.k = N at *
                  generalize (x.m && decide (0 < N)) = mm at *
                  clear hz hnz heq hc0 hc1
                  go_wp2
                  go_meet
                  case rel => exact ⟨_, _, p', N, mm, rfl, rfl, rfl, cell_later (one_alloc _ _) hd0, cell_later (one_alloc _ _) hd1, by simp, by simp, HK.out.below (one_alloc _ _), chain (chain hBi (chain (one_alloc _ _) hb4)) (chain hb5 (one_alloc _ _))⟩
                case rest =>
                  clear HX HE hix
                  obtain ⟨b8, b9, p', N, mm, rfl, rfl, rfl, d0, d1, d2, d3, hK, hBd⟩ := hcut
                  have HK0 : Hid (BackOk wc.drew x p' N mm) := hK.below (Below.refl _ _).drew
                  clear hK
                  have f0 : wc.drew.cell? ⟨b8, 0, none⟩ = some (.bool x.m) := d0
                  have f1 : wc.drew.cell? ⟨b8, 1, none⟩ = some (.slice x.p x.k x.c) := d1
                  have f2 : wc.drew.cell? ⟨b9, 0, none⟩ = some (.bool mm) := d2
                  have f3 : wc.drew.cell? ⟨b9, 1, none⟩ = some (.slice p' N N) := d3
                  clear d0 d1 d2 d3
                  go_wp2_with fail
                  go_region_held3 (fun w' => w'.cell? ⟨b8, 0, none⟩ = some (.bool x.m) ∧ w'.cell? ⟨b8, 1, none⟩ = some (.slice x.p x.k x.c) ∧ w'.cell? ⟨b9, 0, none⟩ = some (.bool mm) ∧ w'.cell? ⟨b9, 1, none⟩ = some (.slice p' N N))
                    (exact ⟨f0, f1, f2, f3⟩)
                    (first
                      | (go_at_call 9; refine (back9 HK0.out).mono ?_; rintro e w5 ⟨rfl, hb5⟩; have f0 := cell_later hb5 f0; have f1 := cell_later hb5 f1; have f2 := cell_later hb5 f2; have f3 := cell_later hb5 f3; have HK1 : Hid (BackOk w5 x p' N mm) := HK0.out.below hb5)
                      | (go_at_call 8; refine (back8 HK1.out).mono ?_; rintro e w6 ⟨rfl, hb6⟩; have f0 := cell_later hb6 f0; have f1 := cell_later hb6 f1; have f2 := cell_later hb6 f2; have f3 := cell_later hb6 f3; have HK2 : Hid (BackOk w6 x p' N mm) := HK1.out.below hb6)
                      | (go_at_call 10; refine (back10 HK2.out).mono ?_; rintro e w7 ⟨rfl, hb7⟩; have f0 := cell_later hb7 f0; have f1 := cell_later hb7 f1; have f2 := cell_later hb7 f2; have f3 := cell_later hb7 f3))
                  go_wp2
                  go_roundg (8 - (j + 1))
                  case measure => omega
                  case rel => exact ⟨j + 1, by omega, by go_num, chain hBd (chain (Below.refl _ _).drew (chain hb5 (chain hb6 hb7)))⟩
              · have hj' : j = 8 := by omega
                subst hj'
                have g0' := cell_later hBi g0
                have g1' := cell_later hBi g1
                have g7' := cell_later hBi g7
                have g6' := cell_later hBi g6
                clear g0 g1 g7 g6
                by_cases hk1 : o.k = 1
                · rw [hk1] at g0'
                  by_cases hc0 : code = 0
                  · obtain ⟨hDg, hsz, r, hdr, hr8, hnz, hpv, hmm⟩ := HP.out hk1 hc0
                    subst hc0
                    rw [hdr] at g1'
                    obtain ⟨y0, y1, _, _, hXL, hXk⟩ := HR.out r hr8
                    have z0 := cell_later hBi y0
                    have z1 := cell_later hBi y1
                    have hX := hXL.below hBi
                    have HX : Hid (Limbs wr.drew (R' r).p (R' r).k (R' r).c (R' r).zs) := hX.drew
                    have HDg : Hid (Digs (strip (tx o.s)).2) := hDg
                    have Hnz : Hid (nl (R' r).zs (R' r).k = (R' r).k) := hnz
                    have Hpv : Hid (pv (R' r).zs (R' r).k = dval (strip (tx o.s)).2) := hpv
                    have Hmm : Hid ((R' r).m = ((strip (tx o.s)).1 && decide (0 < (R' r).k))) := hmm
                    have ir0 : (0 : Int) ≤ r := by omega
                    have ir1 : (r : Int) < 8 := by omega
                    generalize R' r = x at z0 z1 HX Hnz Hpv Hmm hXk
                    have hXn : x.k ≤ 100000 := by omega
                    clear hX hXL y0 y1 hDg hnz hpv hmm hXk
                    go_wp2_with fail
                    go_region_held3 (fun w' => w'.cell? ⟨b5, 0, none⟩ = some (.int .i64 1) ∧ w'.cell? ⟨b6, 0, none⟩ = some (.int .i64 0) ∧ w'.cell? ⟨b5, 1, none⟩ = some (.int .i64 (r : Int)) ∧ w'.cell? ⟨b5, 7, none⟩ = some (.string o.s) ∧ w'.cell? ⟨w1.heap.size, r * 2, none⟩ = some (.bool x.m) ∧ w'.cell? ⟨w1.heap.size, r * 2 + 1, none⟩ = some (.slice x.p x.k x.c))
                      (exact ⟨g0', g6', g1', g7', z0, z1⟩)
                      (first
                        | (go_at_call 7; refine (istring_txt HX.out hXn).mono ?_; rintro e w5 ⟨⟨t, rfl, hT⟩, hb5⟩; have HT : Hid (TextOf x.m x.zs x.k t) := hT; clear hT; have hbd := chain (Below.refl _ _).drew hb5; have g0' := cell_later hbd g0'; have g6' := cell_later hbd g6'; have g1' := cell_later hbd g1'; have g7' := cell_later hbd g7'; have z0 := cell_later hbd z0; have z1 := cell_later hbd z1)
                        | (go_at_call 11; refine (canonical_any (by omega) HDg.out).mono ?_; rintro e w6 ⟨⟨r2, lr, rfl, hlc, hld, hlt⟩, hw6⟩; subst hw6; have hsr : t = r2 := canon_text HX.out.rng HT.out Hnz.out Hpv.out Hmm.out hlc hld hlt; subst hsr; clear hlc hld hlt))
                    go_wp2
                    go_roundg (n - (k + 1))
                    case measure => omega
                    case rel => exact ⟨k + 1, R', by omega, by go_num, HR.out.below (chain hBi (chain (Below.refl _ _).drew hb5)), chain hB' (chain hBi (chain (Below.refl _ _).drew hb5))⟩
                  · have hcb : (code == 0) = false := by simpa using hc0
                    go_wp2_with fail
                    refine wp_region_held_drew (S := (fun w' => w'.cell? ⟨b5, 0, none⟩ = some (.int .i64 1) ∧ w'.cell? ⟨b6, 0, none⟩ = some (.int .i64 code))) (by kernel_rfl) ⟨g0', g6'⟩ (fun hHeld => ?_)
                    refine wpAnyH_take (i := 0) (oi := { dst := some 53, op := Op.fieldAddr 34 (Operand.tmp 5) 0, type := 0, pos := _, after := #[], guard := none }) (v := ?vv1) rfl (by kernel_rfl) (by kernel_rfl) (by kernel_rfl) (fun _ _ _ h => h) (Or.inl ⟨by rfl, ?hy1⟩) (by assumption) ?tk1
                    case hy1 => (intro w hSw; (try dsimp only at hSw); go_simp; (try with_reducible rfl))
                    try simp only [Act.put, List.setIfInBounds_toArray, List.set_cons_zero, List.set_cons_succ]
                    refine wpAnyH_take (i := 1) (oi := { dst := some 54, op := Op.load 32 (Operand.tmp 53), type := 32, pos := _, after := #[{ on := 0, ground := Ground.data }], guard := none }) (v := ?vv2) rfl (by kernel_rfl) (by kernel_rfl) (by kernel_rfl) (fun _ _ _ h => h) (Or.inl ⟨by rfl, ?hy2⟩) (by assumption) ?tk2
                    case hy2 => (intro w hSw; (try dsimp only at hSw); go_simp; (try with_reducible rfl))
                    try simp only [Act.put, List.setIfInBounds_toArray, List.set_cons_zero, List.set_cons_succ]
                    refine wpAnyH_take (i := 2) (oi := { dst := some 55, op := Op.binOp BinOp.eql 32 (Operand.tmp 54) (Operand.const (Value.int IntKind.i64 1)) 32, type := 4, pos := _, after := #[{ on := 1, ground := Ground.data }], guard := none }) (v := ?vv3) rfl (by kernel_rfl) (by kernel_rfl) (by kernel_rfl) (fun _ _ _ h => h) (Or.inl ⟨by rfl, ?hy3⟩) (by assumption) ?tk3
                    case hy3 => (intro w hSw; (try dsimp only at hSw); go_simp; (try with_reducible rfl))
                    try simp only [Act.put, List.setIfInBounds_toArray, List.set_cons_zero, List.set_cons_succ]
                    refine wpAnyH_take (i := 3) (oi := { dst := some 56, op := Op.move (Operand.tmp 55), type := 4, pos := _, after := #[{ on := 2, ground := Ground.data }], guard := none }) (v := ?vv4) rfl (by kernel_rfl) (by kernel_rfl) (by kernel_rfl) (fun _ _ _ h => h) (Or.inl ⟨by rfl, ?hy4⟩) (by assumption) ?tk4
                    case hy4 => (intro w hSw; (try dsimp only at hSw); go_simp; (try with_reducible rfl))
                    try simp only [Act.put, List.setIfInBounds_toArray, List.set_cons_zero, List.set_cons_succ]
                    refine wpAnyH_take (i := 4) (oi := { dst := some 57, op := Op.fieldAddr 37 (Operand.tmp 6) 0, type := 0, pos := _, after := #[{ on := 3, ground := Ground.guard }], guard := some (3, true) }) (v := ?vv5) rfl (by kernel_rfl) (by kernel_rfl) (by kernel_rfl) (fun _ _ _ h => h) (Or.inl ⟨by rfl, ?hy5⟩) (by assumption) ?tk5
                    case hy5 => (intro w hSw; (try dsimp only at hSw); go_simp; (try with_reducible rfl))
                    try simp only [Act.put, List.setIfInBounds_toArray, List.set_cons_zero, List.set_cons_succ]
                    refine wpAnyH_take (i := 5) (oi := { dst := some 58, op := Op.load 35 (Operand.tmp 57), type := 35, pos := _, after := #[{ on := 4, ground := Ground.data }, { on := 3, ground := Ground.guard }], guard := some (3, true) }) (v := ?vv6) rfl (by kernel_rfl) (by kernel_rfl) (by kernel_rfl) (fun _ _ _ h => h) (Or.inl ⟨by rfl, ?hy6⟩) (by assumption) ?tk6
                    case hy6 => (intro w hSw; (try dsimp only at hSw); go_simp; (try with_reducible rfl))
                    try simp only [Act.put, List.setIfInBounds_toArray, List.set_cons_zero, List.set_cons_succ]
                    refine wpAnyH_take (i := 6) (oi := { dst := some 59, op := Op.binOp BinOp.eql 35 (Operand.tmp 58) (Operand.const (Value.int IntKind.i64 0)) 35, type := 4, pos := _, after := #[{ on := 5, ground := Ground.data }, { on := 3, ground := Ground.guard }], guard := some (3, true) }) (v := ?vv7) rfl (by kernel_rfl) (by kernel_rfl) (by kernel_rfl) (fun _ _ _ h => h) (Or.inl ⟨by rfl, ?hy7⟩) (by assumption) ?tk7
                    case hy7 => (intro w hSw; (try dsimp only at hSw); go_simp; (try with_reducible rfl))
                    try simp only [Act.put, List.setIfInBounds_toArray, List.set_cons_zero, List.set_cons_succ]
                    refine wpAnyH_take (i := 7) (oi := { dst := some 60, op := Op.pick (Operand.tmp 56) (Operand.tmp 59) (Operand.const (Value.bool false)), type := 4, pos := _, after := #[{ on := 3, ground := Ground.data }, { on := 6, ground := Ground.data }], guard := none }) (v := ?vv8) rfl (by kernel_rfl) (by kernel_rfl) (by kernel_rfl) (fun _ _ _ h => h) (Or.inl ⟨by rfl, ?hy8⟩) (by assumption) ?tk8
                    case hy8 => (intro w hSw; (try dsimp only at hSw); go_simp; (try with_reducible rfl))
                    try simp only [Act.put, List.setIfInBounds_toArray, List.set_cons_zero, List.set_cons_succ]
                    refine wpAnyH_take (i := 8) (oi := { dst := some 61, op := Op.move (Operand.tmp 60), type := 4, pos := _, after := #[{ on := 7, ground := Ground.data }, { on := 3, ground := Ground.chain }], guard := none }) (v := ?vv9) rfl (by kernel_rfl) (by kernel_rfl) (by kernel_rfl) (fun _ _ _ h => h) (Or.inl ⟨by rfl, ?hy9⟩) (by assumption) ?tk9
                    case hy9 => (intro w hSw; (try dsimp only at hSw); go_simp; (try with_reducible rfl))
                    try simp only [Act.put, List.setIfInBounds_toArray, List.set_cons_zero, List.set_cons_succ]
                    refine wpAnyH_take (i := 9) (oi := { dst := some 62, op := Op.move (Operand.tmp 3), type := 24, pos := _, after := #[{ on := 8, ground := Ground.guard }], guard := some (8, true) }) (v := undef) rfl (by kernel_rfl) (by kernel_rfl) (by kernel_rfl) (fun _ _ _ h => h) (Or.inr ⟨by rfl, rfl⟩) (by assumption) ?tk10
                    try simp only [Act.put, List.setIfInBounds_toArray, List.set_cons_zero, List.set_cons_succ]
                    refine wpAnyH_take (i := 10) (oi := { dst := some 63, op := Op.fieldAddr 34 (Operand.tmp 5) 1, type := 0, pos := _, after := #[{ on := 8, ground := Ground.guard }], guard := some (8, true) }) (v := undef) rfl (by kernel_rfl) (by kernel_rfl) (by kernel_rfl) (fun _ _ _ h => h) (Or.inr ⟨by rfl, rfl⟩) (by assumption) ?tk11
                    try simp only [Act.put, List.setIfInBounds_toArray, List.set_cons_zero, List.set_cons_succ]
                    refine wpAnyH_take (i := 11) (oi := { dst := some 64, op := Op.load 3 (Operand.tmp 63), type := 3, pos := _, after := #[{ on := 10, ground := Ground.data }, { on := 8, ground := Ground.guard }], guard := some (8, true) }) (v := undef) rfl (by kernel_rfl) (by kernel_rfl) (by kernel_rfl) (fun _ _ _ h => h) (Or.inr ⟨by rfl, rfl⟩) (by assumption) ?tk12
                    try simp only [Act.put, List.setIfInBounds_toArray, List.set_cons_zero, List.set_cons_succ]
                    refine wpAnyH_take (i := 12) (oi := { dst := some 65, op := Op.nilCheck (Operand.tmp 62), type := 0, pos := _, after := #[{ on := 9, ground := Ground.data }, { on := 8, ground := Ground.guard }], guard := some (8, true) }) (v := undef) rfl (by kernel_rfl) (by kernel_rfl) (by kernel_rfl) (fun _ _ _ h => h) (Or.inr ⟨by rfl, rfl⟩) (by assumption) ?tk13
                    try simp only [Act.put, List.setIfInBounds_toArray, List.set_cons_zero, List.set_cons_succ]
                    refine wpAnyH_take (i := 13) (oi := { dst := some 66, op := Op.fieldAddr 31 (Operand.tmp 65) 0, type := 0, pos := _, after := #[{ on := 12, ground := Ground.data }, { on := 8, ground := Ground.guard }], guard := some (8, true) }) (v := undef) rfl (by kernel_rfl) (by kernel_rfl) (by kernel_rfl) (fun _ _ _ h => h) (Or.inr ⟨by rfl, rfl⟩) (by assumption) ?tk14
                    try simp only [Act.put, List.setIfInBounds_toArray, List.set_cons_zero, List.set_cons_succ]
                    refine wpAnyH_take (i := 14) (oi := { dst := some 67, op := Op.indexAddr 29 (Operand.tmp 66) (Operand.tmp 64), type := 0, pos := _, after := #[{ on := 13, ground := Ground.data }, { on := 11, ground := Ground.data }, { on := 8, ground := Ground.guard }], guard := some (8, true) }) (v := undef) rfl (by kernel_rfl) (by kernel_rfl) (by kernel_rfl) (fun _ _ _ h => h) (Or.inr ⟨by rfl, rfl⟩) (by assumption) ?tk15
                    try simp only [Act.put, List.setIfInBounds_toArray, List.set_cons_zero, List.set_cons_succ]
                    refine wpAnyH_take (i := 15) (oi := { dst := some 68, op := Op.load 28 (Operand.tmp 67), type := 28, pos := _, after := #[{ on := 14, ground := Ground.data }, { on := 8, ground := Ground.guard }], guard := some (8, true) }) (v := undef) rfl (by kernel_rfl) (by kernel_rfl) (by kernel_rfl) (fun _ _ _ h => h) (Or.inr ⟨by rfl, rfl⟩) (by assumption) ?tk16
                    try simp only [Act.put, List.setIfInBounds_toArray, List.set_cons_zero, List.set_cons_succ]
                    refine wpAnyH_take (i := 16) (oi := { dst := some 69, op := Op.call { callee := Callee.value (Operand.func 7), args := #[Operand.tmp 68], argTypes := #[28] }, type := 9, pos := _, after := #[{ on := 15, ground := Ground.data }, { on := 8, ground := Ground.chain }, { on := 8, ground := Ground.guard }], guard := some (8, true) }) (v := undef) rfl (by kernel_rfl) (by kernel_rfl) (by kernel_rfl) (fun _ _ _ h => h) (Or.inr ⟨by rfl, rfl⟩) (by assumption) ?tk17
                    try simp only [Act.put, List.setIfInBounds_toArray, List.set_cons_zero, List.set_cons_succ]
                    refine wpAnyH_take (i := 17) (oi := { dst := some 70, op := Op.fieldAddr 34 (Operand.tmp 5) 7, type := 0, pos := _, after := #[{ on := 8, ground := Ground.guard }], guard := some (8, true) }) (v := undef) rfl (by kernel_rfl) (by kernel_rfl) (by kernel_rfl) (fun _ _ _ h => h) (Or.inr ⟨by rfl, rfl⟩) (by assumption) ?tk18
                    try simp only [Act.put, List.setIfInBounds_toArray, List.set_cons_zero, List.set_cons_succ]
                    refine wpAnyH_take (i := 18) (oi := { dst := some 71, op := Op.load 9 (Operand.tmp 70), type := 9, pos := _, after := #[{ on := 17, ground := Ground.data }, { on := 8, ground := Ground.guard }], guard := some (8, true) }) (v := undef) rfl (by kernel_rfl) (by kernel_rfl) (by kernel_rfl) (fun _ _ _ h => h) (Or.inr ⟨by rfl, rfl⟩) (by assumption) ?tk19
                    try simp only [Act.put, List.setIfInBounds_toArray, List.set_cons_zero, List.set_cons_succ]
                    refine wpAnyH_take (i := 19) (oi := { dst := some 72, op := Op.call { callee := Callee.value (Operand.func 11), args := #[Operand.tmp 71], argTypes := #[9] }, type := 9, pos := _, after := #[{ on := 18, ground := Ground.data }, { on := 16, ground := Ground.chain }, { on := 8, ground := Ground.guard }], guard := some (8, true) }) (v := undef) rfl (by kernel_rfl) (by kernel_rfl) (by kernel_rfl) (fun _ _ _ h => h) (Or.inr ⟨by rfl, rfl⟩) (by assumption) ?tk20
                    try simp only [Act.put, List.setIfInBounds_toArray, List.set_cons_zero, List.set_cons_succ]
                    refine wpAnyH_take (i := 20) (oi := { dst := some 73, op := Op.binOp BinOp.neq 9 (Operand.tmp 69) (Operand.tmp 72) 9, type := 4, pos := _, after := #[{ on := 16, ground := Ground.data }, { on := 19, ground := Ground.data }, { on := 8, ground := Ground.guard }], guard := some (8, true) }) (v := undef) rfl (by kernel_rfl) (by kernel_rfl) (by kernel_rfl) (fun _ _ _ h => h) (Or.inr ⟨by rfl, rfl⟩) (by assumption) ?tk21
                    try simp only [Act.put, List.setIfInBounds_toArray, List.set_cons_zero, List.set_cons_succ]
                    refine wpAnyH_take (i := 21) (oi := { dst := some 74, op := Op.pick (Operand.tmp 61) (Operand.tmp 73) (Operand.const (Value.bool false)), type := 4, pos := _, after := #[{ on := 8, ground := Ground.data }, { on := 20, ground := Ground.data }], guard := none }) (v := ?vv22) rfl (by kernel_rfl) (by kernel_rfl) (by kernel_rfl) (fun _ _ _ h => h) (Or.inl ⟨by rfl, ?hy22⟩) (by assumption) ?tk22
                    case hy22 => (intro w hSw; (try dsimp only at hSw); go_simp; (try with_reducible rfl))
                    try simp only [Act.put, List.setIfInBounds_toArray, List.set_cons_zero, List.set_cons_succ]
                    refine wpAnyH_done (by kernel_rfl) ?_ _
                    go_wp2
                    go_roundg (n - (k + 1))
                    case measure => omega
                    case rel => exact ⟨k + 1, R', by omega, by go_num, HR.out.below (chain hBi (Below.refl _ _).drew), chain hB' (chain hBi (Below.refl _ _).drew)⟩
                · have hkb : (o.k == 1) = false := by simpa using hk1
                  go_wp2_with fail
                  refine wp_region_held_drew (S := (fun w' => w'.cell? ⟨b5, 0, none⟩ = some (.int .i64 o.k))) (by kernel_rfl) g0' (fun hHeld => ?_)
                  refine wpAnyH_take (i := 0) (oi := { dst := some 53, op := Op.fieldAddr 34 (Operand.tmp 5) 0, type := 0, pos := _, after := #[], guard := none }) (v := ?vv23) rfl (by kernel_rfl) (by kernel_rfl) (by kernel_rfl) (fun _ _ _ h => h) (Or.inl ⟨by rfl, ?hy23⟩) (by assumption) ?tk23
                  case hy23 => (intro w hSw; (try dsimp only at hSw); go_simp; (try with_reducible rfl))
                  try simp only [Act.put, List.setIfInBounds_toArray, List.set_cons_zero, List.set_cons_succ]
                  refine wpAnyH_take (i := 1) (oi := { dst := some 54, op := Op.load 32 (Operand.tmp 53), type := 32, pos := _, after := #[{ on := 0, ground := Ground.data }], guard := none }) (v := ?vv24) rfl (by kernel_rfl) (by kernel_rfl) (by kernel_rfl) (fun _ _ _ h => h) (Or.inl ⟨by rfl, ?hy24⟩) (by assumption) ?tk24
                  case hy24 => (intro w hSw; (try dsimp only at hSw); go_simp; (try with_reducible rfl))
                  try simp only [Act.put, List.setIfInBounds_toArray, List.set_cons_zero, List.set_cons_succ]
                  refine wpAnyH_take (i := 2) (oi := { dst := some 55, op := Op.binOp BinOp.eql 32 (Operand.tmp 54) (Operand.const (Value.int IntKind.i64 1)) 32, type := 4, pos := _, after := #[{ on := 1, ground := Ground.data }], guard := none }) (v := ?vv25) rfl (by kernel_rfl) (by kernel_rfl) (by kernel_rfl) (fun _ _ _ h => h) (Or.inl ⟨by rfl, ?hy25⟩) (by assumption) ?tk25
                  case hy25 => (intro w hSw; (try dsimp only at hSw); go_simp; (try with_reducible rfl))
                  try simp only [Act.put, List.setIfInBounds_toArray, List.set_cons_zero, List.set_cons_succ]
                  refine wpAnyH_take (i := 3) (oi := { dst := some 56, op := Op.move (Operand.tmp 55), type := 4, pos := _, after := #[{ on := 2, ground := Ground.data }], guard := none }) (v := ?vv26) rfl (by kernel_rfl) (by kernel_rfl) (by kernel_rfl) (fun _ _ _ h => h) (Or.inl ⟨by rfl, ?hy26⟩) (by assumption) ?tk26
                  case hy26 => (intro w hSw; (try dsimp only at hSw); go_simp; (try with_reducible rfl))
                  try simp only [Act.put, List.setIfInBounds_toArray, List.set_cons_zero, List.set_cons_succ]
                  refine wpAnyH_take (i := 4) (oi := { dst := some 57, op := Op.fieldAddr 37 (Operand.tmp 6) 0, type := 0, pos := _, after := #[{ on := 3, ground := Ground.guard }], guard := some (3, true) }) (v := undef) rfl (by kernel_rfl) (by kernel_rfl) (by kernel_rfl) (fun _ _ _ h => h) (Or.inr ⟨by rfl, rfl⟩) (by assumption) ?tk27
                  try simp only [Act.put, List.setIfInBounds_toArray, List.set_cons_zero, List.set_cons_succ]
                  refine wpAnyH_take (i := 5) (oi := { dst := some 58, op := Op.load 35 (Operand.tmp 57), type := 35, pos := _, after := #[{ on := 4, ground := Ground.data }, { on := 3, ground := Ground.guard }], guard := some (3, true) }) (v := undef) rfl (by kernel_rfl) (by kernel_rfl) (by kernel_rfl) (fun _ _ _ h => h) (Or.inr ⟨by rfl, rfl⟩) (by assumption) ?tk28
                  try simp only [Act.put, List.setIfInBounds_toArray, List.set_cons_zero, List.set_cons_succ]
                  refine wpAnyH_take (i := 6) (oi := { dst := some 59, op := Op.binOp BinOp.eql 35 (Operand.tmp 58) (Operand.const (Value.int IntKind.i64 0)) 35, type := 4, pos := _, after := #[{ on := 5, ground := Ground.data }, { on := 3, ground := Ground.guard }], guard := some (3, true) }) (v := undef) rfl (by kernel_rfl) (by kernel_rfl) (by kernel_rfl) (fun _ _ _ h => h) (Or.inr ⟨by rfl, rfl⟩) (by assumption) ?tk29
                  try simp only [Act.put, List.setIfInBounds_toArray, List.set_cons_zero, List.set_cons_succ]
                  refine wpAnyH_take (i := 7) (oi := { dst := some 60, op := Op.pick (Operand.tmp 56) (Operand.tmp 59) (Operand.const (Value.bool false)), type := 4, pos := _, after := #[{ on := 3, ground := Ground.data }, { on := 6, ground := Ground.data }], guard := none }) (v := ?vv30) rfl (by kernel_rfl) (by kernel_rfl) (by kernel_rfl) (fun _ _ _ h => h) (Or.inl ⟨by rfl, ?hy30⟩) (by assumption) ?tk30
                  case hy30 => (intro w hSw; (try dsimp only at hSw); go_simp; (try with_reducible rfl))
                  try simp only [Act.put, List.setIfInBounds_toArray, List.set_cons_zero, List.set_cons_succ]
                  refine wpAnyH_take (i := 8) (oi := { dst := some 61, op := Op.move (Operand.tmp 60), type := 4, pos := _, after := #[{ on := 7, ground := Ground.data }, { on := 3, ground := Ground.chain }], guard := none }) (v := ?vv31) rfl (by kernel_rfl) (by kernel_rfl) (by kernel_rfl) (fun _ _ _ h => h) (Or.inl ⟨by rfl, ?hy31⟩) (by assumption) ?tk31
                  case hy31 => (intro w hSw; (try dsimp only at hSw); go_simp; (try with_reducible rfl))
                  try simp only [Act.put, List.setIfInBounds_toArray, List.set_cons_zero, List.set_cons_succ]
                  refine wpAnyH_take (i := 9) (oi := { dst := some 62, op := Op.move (Operand.tmp 3), type := 24, pos := _, after := #[{ on := 8, ground := Ground.guard }], guard := some (8, true) }) (v := undef) rfl (by kernel_rfl) (by kernel_rfl) (by kernel_rfl) (fun _ _ _ h => h) (Or.inr ⟨by rfl, rfl⟩) (by assumption) ?tk32
                  try simp only [Act.put, List.setIfInBounds_toArray, List.set_cons_zero, List.set_cons_succ]
                  refine wpAnyH_take (i := 10) (oi := { dst := some 63, op := Op.fieldAddr 34 (Operand.tmp 5) 1, type := 0, pos := _, after := #[{ on := 8, ground := Ground.guard }], guard := some (8, true) }) (v := undef) rfl (by kernel_rfl) (by kernel_rfl) (by kernel_rfl) (fun _ _ _ h => h) (Or.inr ⟨by rfl, rfl⟩) (by assumption) ?tk33
                  try simp only [Act.put, List.setIfInBounds_toArray, List.set_cons_zero, List.set_cons_succ]
                  refine wpAnyH_take (i := 11) (oi := { dst := some 64, op := Op.load 3 (Operand.tmp 63), type := 3, pos := _, after := #[{ on := 10, ground := Ground.data }, { on := 8, ground := Ground.guard }], guard := some (8, true) }) (v := undef) rfl (by kernel_rfl) (by kernel_rfl) (by kernel_rfl) (fun _ _ _ h => h) (Or.inr ⟨by rfl, rfl⟩) (by assumption) ?tk34
                  try simp only [Act.put, List.setIfInBounds_toArray, List.set_cons_zero, List.set_cons_succ]
                  refine wpAnyH_take (i := 12) (oi := { dst := some 65, op := Op.nilCheck (Operand.tmp 62), type := 0, pos := _, after := #[{ on := 9, ground := Ground.data }, { on := 8, ground := Ground.guard }], guard := some (8, true) }) (v := undef) rfl (by kernel_rfl) (by kernel_rfl) (by kernel_rfl) (fun _ _ _ h => h) (Or.inr ⟨by rfl, rfl⟩) (by assumption) ?tk35
                  try simp only [Act.put, List.setIfInBounds_toArray, List.set_cons_zero, List.set_cons_succ]
                  refine wpAnyH_take (i := 13) (oi := { dst := some 66, op := Op.fieldAddr 31 (Operand.tmp 65) 0, type := 0, pos := _, after := #[{ on := 12, ground := Ground.data }, { on := 8, ground := Ground.guard }], guard := some (8, true) }) (v := undef) rfl (by kernel_rfl) (by kernel_rfl) (by kernel_rfl) (fun _ _ _ h => h) (Or.inr ⟨by rfl, rfl⟩) (by assumption) ?tk36
                  try simp only [Act.put, List.setIfInBounds_toArray, List.set_cons_zero, List.set_cons_succ]
                  refine wpAnyH_take (i := 14) (oi := { dst := some 67, op := Op.indexAddr 29 (Operand.tmp 66) (Operand.tmp 64), type := 0, pos := _, after := #[{ on := 13, ground := Ground.data }, { on := 11, ground := Ground.data }, { on := 8, ground := Ground.guard }], guard := some (8, true) }) (v := undef) rfl (by kernel_rfl) (by kernel_rfl) (by kernel_rfl) (fun _ _ _ h => h) (Or.inr ⟨by rfl, rfl⟩) (by assumption) ?tk37
                  try simp only [Act.put, List.setIfInBounds_toArray, List.set_cons_zero, List.set_cons_succ]
                  refine wpAnyH_take (i := 15) (oi := { dst := some 68, op := Op.load 28 (Operand.tmp 67), type := 28, pos := _, after := #[{ on := 14, ground := Ground.data }, { on := 8, ground := Ground.guard }], guard := some (8, true) }) (v := undef) rfl (by kernel_rfl) (by kernel_rfl) (by kernel_rfl) (fun _ _ _ h => h) (Or.inr ⟨by rfl, rfl⟩) (by assumption) ?tk38
                  try simp only [Act.put, List.setIfInBounds_toArray, List.set_cons_zero, List.set_cons_succ]
                  refine wpAnyH_take (i := 16) (oi := { dst := some 69, op := Op.call { callee := Callee.value (Operand.func 7), args := #[Operand.tmp 68], argTypes := #[28] }, type := 9, pos := _, after := #[{ on := 15, ground := Ground.data }, { on := 8, ground := Ground.chain }, { on := 8, ground := Ground.guard }], guard := some (8, true) }) (v := undef) rfl (by kernel_rfl) (by kernel_rfl) (by kernel_rfl) (fun _ _ _ h => h) (Or.inr ⟨by rfl, rfl⟩) (by assumption) ?tk39
                  try simp only [Act.put, List.setIfInBounds_toArray, List.set_cons_zero, List.set_cons_succ]
                  refine wpAnyH_take (i := 17) (oi := { dst := some 70, op := Op.fieldAddr 34 (Operand.tmp 5) 7, type := 0, pos := _, after := #[{ on := 8, ground := Ground.guard }], guard := some (8, true) }) (v := undef) rfl (by kernel_rfl) (by kernel_rfl) (by kernel_rfl) (fun _ _ _ h => h) (Or.inr ⟨by rfl, rfl⟩) (by assumption) ?tk40
                  try simp only [Act.put, List.setIfInBounds_toArray, List.set_cons_zero, List.set_cons_succ]
                  refine wpAnyH_take (i := 18) (oi := { dst := some 71, op := Op.load 9 (Operand.tmp 70), type := 9, pos := _, after := #[{ on := 17, ground := Ground.data }, { on := 8, ground := Ground.guard }], guard := some (8, true) }) (v := undef) rfl (by kernel_rfl) (by kernel_rfl) (by kernel_rfl) (fun _ _ _ h => h) (Or.inr ⟨by rfl, rfl⟩) (by assumption) ?tk41
                  try simp only [Act.put, List.setIfInBounds_toArray, List.set_cons_zero, List.set_cons_succ]
                  refine wpAnyH_take (i := 19) (oi := { dst := some 72, op := Op.call { callee := Callee.value (Operand.func 11), args := #[Operand.tmp 71], argTypes := #[9] }, type := 9, pos := _, after := #[{ on := 18, ground := Ground.data }, { on := 16, ground := Ground.chain }, { on := 8, ground := Ground.guard }], guard := some (8, true) }) (v := undef) rfl (by kernel_rfl) (by kernel_rfl) (by kernel_rfl) (fun _ _ _ h => h) (Or.inr ⟨by rfl, rfl⟩) (by assumption) ?tk42
                  try simp only [Act.put, List.setIfInBounds_toArray, List.set_cons_zero, List.set_cons_succ]
                  refine wpAnyH_take (i := 20) (oi := { dst := some 73, op := Op.binOp BinOp.neq 9 (Operand.tmp 69) (Operand.tmp 72) 9, type := 4, pos := _, after := #[{ on := 16, ground := Ground.data }, { on := 19, ground := Ground.data }, { on := 8, ground := Ground.guard }], guard := some (8, true) }) (v := undef) rfl (by kernel_rfl) (by kernel_rfl) (by kernel_rfl) (fun _ _ _ h => h) (Or.inr ⟨by rfl, rfl⟩) (by assumption) ?tk43
                  try simp only [Act.put, List.setIfInBounds_toArray, List.set_cons_zero, List.set_cons_succ]
                  refine wpAnyH_take (i := 21) (oi := { dst := some 74, op := Op.pick (Operand.tmp 61) (Operand.tmp 73) (Operand.const (Value.bool false)), type := 4, pos := _, after := #[{ on := 8, ground := Ground.data }, { on := 20, ground := Ground.data }], guard := none }) (v := ?vv44) rfl (by kernel_rfl) (by kernel_rfl) (by kernel_rfl) (fun _ _ _ h => h) (Or.inl ⟨by rfl, ?hy44⟩) (by assumption) ?tk44
                  case hy44 => (intro w hSw; (try dsimp only at hSw); go_simp; (try with_reducible rfl))
                  try simp only [Act.put, List.setIfInBounds_toArray, List.set_cons_zero, List.set_cons_succ]
                  refine wpAnyH_done (by kernel_rfl) ?_ _
                  go_wp2
                  go_roundg (n - (k + 1))
                  case measure => omega
                  case rel => exact ⟨k + 1, R', by omega, by go_num, HR.out.below (chain hBi (Below.refl _ _).drew), chain hB' (chain hBi (Below.refl _ _).drew)⟩
      · go_wp2
        go_ret
        exact ⟨rfl, hB⟩
end Go.Proofs.Qxb6500872aDoor
