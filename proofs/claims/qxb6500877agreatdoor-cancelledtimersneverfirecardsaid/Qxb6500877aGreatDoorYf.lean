import Derived.Deep.CutBlock
import Derived.Test.Qxb6500877aGreatDoorYb
import Derived.Test.Qxb6500877aGreatDoorYc
import Derived.Test.Qxb6500877aGreatDoorVd
import Derived.Test.Qxb6500877aGreatDoorUMl
set_option linter.unusedVariables false
set_option linter.unusedSimpArgs false
namespace Go.Proofs.Qxb6500877aGreatDoor
open Go.RowKit

/-- The law at work: the machine, its book, and the cell that holds the book. -/
structure LC (n0 : Nat) (w0 w : World) (B mb t k : Nat) (ν : Net) (τ : TSt) (bk pb cb n : Nat) (β : Int → Option TmV) (χ : Int → Bool) (b4 : Nat) : Prop where
  l : LT n0 w0 w B mb t k ν τ bk pb cb n β χ
  c : w.cell? ⟨b4, 0, none⟩ = some (.pointer (some ⟨bk, 0, none⟩))
theorem LC.lt4 {n0 : Nat} {w0 w : World} {B mb t k : Nat} {ν : Net} {τ : TSt} {bk pb cb n : Nat} {β : Int → Option TmV} {χ : Int → Bool} {b4 : Nat} (h : LC n0 w0 w B mb t k ν τ bk pb cb n β χ b4) : b4 < w.heap.size := World.block_lt_of_cell? _ _ h.c
theorem LC.keep {n0 : Nat} {w0 w w' : World} {B mb t k : Nat} {ν : Net} {τ : TSt} {bk pb cb n : Nat} {β : Int → Option TmV} {χ : Int → Bool} {b4 : Nat} (h : LC n0 w0 w B mb t k ν τ bk pb cb n β χ b4) (hb : Below w.heap.size w w') : LC n0 w0 w' B mb t k ν τ bk pb cb n β χ b4 :=
  ⟨h.l.keep hb, (World.cell?_of_block (a := ⟨b4, 0, none⟩) (hb.block b4 h.lt4)).trans h.c⟩
theorem LC.mono {n0 : Nat} {w0 w : World} {B mb t k k' : Nat} {ν : Net} {τ : TSt} {bk pb cb n n' : Nat} {β : Int → Option TmV} {χ : Int → Bool} {b4 : Nat} (h : LC n0 w0 w B mb t k ν τ bk pb cb n β χ b4) (hk : k ≤ k') (hn : n ≤ n') : LC n0 w0 w B mb t k' ν τ bk pb cb n' β χ b4 := ⟨h.l.mono hk hn, h.c⟩
theorem LC.step {n0 : Nat} {w0 w w' : World} {B mb t t' k k' : Nat} {ν ν' : Net} {τ τ' : TSt} {bk pb cb n : Nat} {β : Int → Option TmV} {χ : Int → Bool} {b4 : Nat} (h : LC n0 w0 w B mb t k ν τ bk pb cb n β χ b4) (Q : LQ n0 B mb bk pb cb) (D : Done w w' B mb t' k' ν' τ') (h4 : b4 ≠ B ∧ b4 ≠ mb) : LC n0 w0 w' B mb t' k' ν' τ' bk pb cb n β χ b4 :=
  ⟨h.l.step Q D, (World.cell?_of_block (a := ⟨b4, 0, none⟩) (D.f.block b4 h.lt4 h4.1 h4.2)).trans h.c⟩
theorem LC.note {n0 : Nat} {w0 w w' : World} {B mb t k : Nat} {ν : Net} {τ : TSt} {bk pb cb n n' : Nat} {β β' : Int → Option TmV} {χ χ' : Int → Bool} {b4 : Nat} (h : LC n0 w0 w B mb t k ν τ bk pb cb n β χ b4) (Q : LQ n0 B mb bk pb cb) (M : MutM pb cb w w') (K : BookAt w' bk pb cb n' β' χ') (h4 : b4 ≠ pb ∧ b4 ≠ cb) : LC n0 w0 w' B mb t k ν τ bk pb cb n' β' χ' b4 :=
  ⟨h.l.note Q M K, (World.cell?_of_block (a := ⟨b4, 0, none⟩) (M.block b4 h.lt4 h4.1 h4.2)).trans h.c⟩
theorem LC.drewN {n0 : Nat} {w0 w : World} {B mb t k : Nat} {ν : Net} {τ : TSt} {bk pb cb n : Nat} {β : Int → Option TmV} {χ : Int → Bool} {b4 : Nat} (h : LC n0 w0 w B mb t k ν τ bk pb cb n β χ b4) (i : Nat) : LC n0 w0 (w.drewN i) B mb t k ν τ bk pb cb n β χ b4 := ⟨h.l.drewN i, h.c⟩
theorem cano_live {χ : Int → Bool} {τ : TSt} (h : CanOk χ τ) (id : Int) : χ id = true → (τ.tm id).isSome = false := fun e => by rw [(h id e).1]; rfl
set_option maxRecDepth 20000 in
set_option maxHeartbeats 16000000 in
theorem law7_of (hstep : ∀ (w : World) (B mb t k : Nat) (ν : Net) (τ : TSt), Mach w B mb t k ν τ → k < 800000 → ∀ (o : OpS), o.ok → Calls Tryz.prog 19 #[.pointer (some ⟨B, 0, none⟩), opV o] w fun e w' => ∃ (c tm : Int) (v : Value) (l : List FiredS) (ν' : Net) (τ' : TSt), ResG c tm v e ∧ FiredAt w' w.heap.size v l ∧ Done w w' B mb (afterF t (tickOf o)) (k + 4) ν' τ' ∧ TimX o t τ c tm l τ')
    {p : Option Addr} {n c : Nat} {L : List OpS} {w : World} (h : OpsIn w p L) (hn : L.length = n) (hok : ∀ o ∈ L, o.ok) (hnc : n ≤ c) (V : Vac w) (TB : TabAt w) (h2 : 2 < w.heap.size) :
    Calls Tryz.prog 7 #[.slice p n c] w fun e w' => e = .returned (.bool true) ∧ Below w.heap.size w w' := by
  have HST : Hid (∀ {w : World} {B mb t k : Nat} {ν : Net} {τ : TSt}, Mach w B mb t k ν τ → k < 800000 → ∀ (o : OpS), o.ok → Calls Tryz.prog 19 #[.pointer (some ⟨B, 0, none⟩), opV o] w fun e w' => ∃ (c tm : Int) (v : Value) (l : List FiredS) (ν' : Net) (τ' : TSt), ResG c tm v e ∧ FiredAt w' w.heap.size v l ∧ Done w w' B mb (afterF t (tickOf o)) (k + 4) ν' τ' ∧ TimX o t τ c tm l τ') := hideIt (hstep _ _ _ _ _ _ _)
  clear hstep
  have hsm := small_any (p := p) (n := n) (c := c) w
  by_cases hb : n ≤ 65536
  · rw [decide_eq_true hb] at hsm
    go_enter Tryz.func7, Tryz.ntmps7
    go_wp2_with fail
    refine hsm.mono ?_
    rintro e w ⟨rfl, rfl⟩
    go_wp2_with fail
    refine (new_any V TB h2).mono ?_
    rintro e w1 ⟨B, mb, rfl, M1, hwB, hwm, hb1⟩
    go_wp2_with fail
    refine (book_new w1).mono ?_
    rintro e wk ⟨bk, pb, cb, rfl, K, k1, k2, k3, hb2⟩
    obtain ⟨Q, H0⟩ := lt_new M1 hwB hwm h2 hb1 K k1 k2 k3 hb2
    clear M1 hwB hwm hb1 K k1 k2 k3 hb2
    have l1 := H0.bo.lt
    have l2 := H0.m.lt
    have l3 := H0.m.mlt
    have HQ4 : Hid (wk.heap.size ≠ B ∧ wk.heap.size ≠ mb ∧ wk.heap.size ≠ pb ∧ wk.heap.size ≠ cb) := hideIt ⟨by omega, by omega, by omega, by omega⟩
    have H1 : LC w.heap.size w (wk.alloc (.cells #[.pointer (some ⟨bk, 0, none⟩)] 78)) B mb 0 0 net0 τ0 bk pb cb 0 τ0.tm (fun _ => false) wk.heap.size := ⟨H0.keep (one_alloc _ _), by simp⟩
    clear H0 l1 l2 l3
    go_wp2_with fail
    go_loopg [20] n (fun gg v wr => ∃ (i t : Nat) (ν : Net) (τ : TSt) (χ : Int → Bool), i + gg = n ∧ v = .int .i64 (i : Int) ∧ LC w.heap.size w wr B mb t (4 * i) ν τ bk pb cb (4 * i) τ.tm χ wk.heap.size ∧ Hid (CanOk χ τ))
    case atStart => exact ⟨0, 0, net0, τ0, _, by omega, rfl, H1, hideIt (fun id h => by simp at h)⟩
    case round =>
      clear H1
      obtain ⟨i, t, ν, τ, χ, hig, rfl, H, HC⟩ := hrel
      by_cases hi : i < n
      · have i0 : (0 : Int) ≤ i := by omega
        have i1 : (i : Int) < (n : Int) := by omega
        have hi' : i < L.length := by omega
        obtain ⟨b, off, rfl, hcs⟩ : ∃ b off, p = some ⟨b, off, none⟩ ∧ ∀ j (h : j < L.length), OpCs w b (off + j * 6) L[j] := by
          rcases h with h | h
          · rw [h] at hi'; simp at hi'
          · exact h
        have hC := hcs i hi'
        have ho := hok _ (List.getElem_mem hi')
        generalize L[i] = o at hC ho
        obtain ⟨c0, c1, c2, c3, c4, c5⟩ := hC
        have d0 := cell_later H.l.b c0
        have d1 := cell_later H.l.b c1
        have d2 := cell_later H.l.b c2
        have d3 := cell_later H.l.b c3
        have d4 := cell_later H.l.b c4
        have d5 := cell_later H.l.b c5
        clear c0 c1 c2 c3 c4 c5 hcs
        go_upto_block 1 with fail
        go_cut [] (fun wc => ∃ (t' : Nat) (ν' : Net) (τ' : TSt) (χ' : Int → Bool), LC w.heap.size w wc B mb t' (4 * i + 4) ν' τ' bk pb cb (4 * i + 4) τ'.tm χ' wk.heap.size ∧ Hid (CanOk χ' τ'))
        case first =>
          go_upto_region 8 with fail
          go_cut [7] (fun a7 wc => ∃ p7 : Nat, a7 = .pointer (some ⟨p7, 0, none⟩) ∧ OpAt wc p7 o ∧ LC w.heap.size w wc B mb t (4 * i) ν τ bk pb cb (4 * i) τ.tm χ wk.heap.size ∧ Hid ((w.heap.size ≤ p7 ∧ bk < p7 ∧ pb < p7 ∧ cb < p7 ∧ B < p7 ∧ mb < p7 ∧ wk.heap.size < p7) ∧ wk.heap.size ≠ B ∧ wk.heap.size ≠ mb ∧ wk.heap.size ≠ pb ∧ wk.heap.size ≠ cb))
          case first =>
            go_wp2
            go_meet
            case rel =>
              have l1 := H.l.bo.lt
              have l2 := H.l.m.lt
              have l3 := H.l.m.mlt
              have l4 := H.lt4
              exact ⟨wr.heap.size, rfl, op_new wr o 32, H.keep (one_alloc _ _), hideIt ⟨⟨H.l.s, by omega, by omega, by omega, by omega, by omega, by omega⟩, HQ4.out⟩⟩
          case rest =>
          clear d0 d1 d2 d3 d4 d5 H
          obtain ⟨p7, rfl, OP, H, HPB⟩ := hcut
          have hnow := now_any H.l.m.clk
          go_wp2_with fail
          refine hnow.mono ?_
          rintro e wc ⟨rfl, rfl⟩
          clear hnow
          have hst := HST.out H.l.m (by omega) o ho
          unfold opV at hst
          have htl := H.l.m.tlt
          obtain ⟨hnx0, hnx1⟩ := H.l.m.nxr
          have HIDN : Hid (∀ id v, τ.tm id = some v → id < τ.nx ∧ 0 ≤ id ∧ id < 18446744073709551616) := hideIt (fun id v q => ⟨H.l.m.idn q, H.l.m.idr q⟩)
          have OP' := OP
          obtain ⟨g0, g1, g2, g3, g4, g5⟩ := OP
          have hp7' := OP'.lt
          go_upto_region 10 with fail
          go_cut [9] (fun a9 wd => ∃ (b9 : Nat) (c co tk tm : Int) (hm : Bool) (mm : MsgV) (pp : Option Addr) (cap : Nat) (l : List FiredS) (ν' : Net) (τ' : TSt), a9 = .pointer (some ⟨b9, 0, none⟩) ∧ RgAt wd b9 c co tk tm hm mm pp l.length cap ∧ OpAt wd p7 o ∧ LC w.heap.size w wd B mb (afterF t (tickOf o)) (4 * i + 4) ν' τ' bk pb cb (4 * i) τ.tm χ wk.heap.size ∧ FS wd (p7 + 1) pp cap l ∧ p7 < b9 ∧ Hid (TimX o t τ c tm l τ'))
          case first =>
            go_wp2_with fail
            refine hst.mono ?_
            rintro e w2 ⟨c, tm, v, l, ν', τ', ⟨co, tk, hm, mm, pp, a, nn, rfl, rfl⟩, hF, D, hT⟩
            have HT := hideIt hT
            have hq6 := HPB.out
            have H2 := H.step Q D ⟨by omega, by omega⟩
            obtain ⟨rfl, hFS⟩ := fired_in hF
            have hsz := D.f.size
            have OP2 := OP'.blk (D.f.block p7 hp7' (by omega) (by omega))
            have FS2 := hFS.wide (base' := p7 + 1) (by omega)
            clear hT hF hst D hFS H OP' g0 g1 g2 g3 g4 g5
            unfold resV
            go_wp2
            go_meet
            case rel =>
              have b1 := one_alloc w2 (.cells #[.int .i64 c, .int .i64 co, .int .i64 tk, .int .u64 tm, .bool hm, .int .i64 mm.mf, .int .i64 mm.mt, .int .u32 mm.md, .int .u64 mm.mq, .int .u64 mm.ma, .int .u64 mm.x0, .int .u64 mm.x1, .int .u64 mm.x2, .int .u64 mm.x3, .slice pp l.length nn] 43)
              exact ⟨w2.heap.size, c, co, tk, tm, hm, mm, pp, nn, l, ν', τ', rfl, rg_new w2 c co tk tm hm mm pp l.length nn 43, OP2.blk (b1.block _ (by omega)), H2.keep b1, FS2.below b1, by omega, HT⟩
          case rest =>
          clear hst H OP' g0 g1 g2 g3 g4 g5 hp7'
          obtain ⟨b9, c, co, tk, tm, hm, mm, pp, cap, l, ν', τ', rfl, RG, OP, H, F, hb9, HT⟩ := hcut
          have hnt := note_any H.l.bo (by omega) ho htl (c := c) (co := co) (tk := tk) (tm := tm) (hm := hm) (mm := mm) (p := pp) (a' := l.length) (n' := cap) (fun hk hc => by
            rcases HT.out.1 with ⟨h1, _⟩ | ⟨_, _, _, h4, _⟩
            · omega
            · have := h4 hk hc
              omega) (fun hk hc => by
            rcases HT.out.1 with ⟨h1, _⟩ | ⟨_, _, _, _, h5⟩
            · omega
            · exact h5 hk hc)
          unfold opV resV at hnt
          obtain ⟨hl, hdr, hcan⟩ := timx_all HT.out HC.out HIDN.out
          have HL := hideIt hl
          have HDR := hideIt hdr
          have HC' := hideIt hcan
          clear hl hdr hcan HT HIDN
          have OP' := OP
          have RG' := RG
          obtain ⟨g0, g1, g2, g3, g4, g5⟩ := OP
          obtain ⟨r0, r1, r2, r3, r4, r5, r6, r7, r8, r9, r10, r11, r12, r13, r14⟩ := RG
          go_upto_region 11 with fail
          go_cut [] (fun wd => LC w.heap.size w wd B mb (afterF t (tickOf o)) (4 * i + 4) ν' τ' bk pb cb (4 * i + 1) (noteT o c tm t τ.tm) (noteX o c χ) wk.heap.size ∧ OpAt wd p7 o ∧ wd.cell? ⟨b9, 14, none⟩ = some (.slice pp l.length cap) ∧ FS wd (p7 + 1) pp cap l)
          case first =>
            have d4 := H.c
            go_wp2_with fail
            refine hnt.mono ?_
            rintro e w2 ⟨rfl, K2, M2⟩
            have hq6 := HPB.out
            have X1 := H.note Q M2 K2 ⟨by omega, by omega⟩
            have X2 := OP'.blk (M2.block p7 OP'.lt (by omega) (by omega))
            have X3 := (World.cell?_of_block (a := ⟨b9, 14, none⟩) (M2.block b9 RG'.lt (by omega) (by omega))).trans RG'.c14
            have X4 := F.keep M2.size (fun q h1 h2 => M2.block q h2 (by omega) (by omega))
            have HX := hideIt (And.intro X1 (And.intro X2 (And.intro X3 X4)))
            clear X1 X2 X3 X4 K2 M2 hnt H OP' RG' F d4 g0 g1 g2 g3 g4 g5 r0 r1 r2 r3 r4 r5 r6 r7 r8 r9 r10 r11 r12 r13 r14
            go_wp2
            go_meet
            case rel => exact HX.out
          case rest =>
          clear hnt H OP' RG' F g0 g1 g2 g3 g4 g5 r0 r1 r2 r3 r4 r5 r6 r7 r8 r9 r10 r11 r12 r13 r14
          obtain ⟨H, OP', c14, F⟩ := hcut
          have hq6 := HPB.out
          have hcl := clean_any H.l.bo H.c F ⟨by omega, by omega⟩ ⟨by omega, by omega⟩ HL.out
          clear hq6
          go_upto_region 12 with fail
          go_cut [38] (fun a38 wd => a38 = .bool false ∧ LC w.heap.size w wd B mb (afterF t (tickOf o)) (4 * i + 4) ν' τ' bk pb cb (4 * i + 1) τ'.tm (noteX o c χ) wk.heap.size ∧ OpAt wd p7 o)
          case first =>
            go_wp2_with fail
            refine hcl.mono ?_
            rintro e w2 ⟨rfl, K2, M2⟩
            have hq6 := HPB.out
            rw [HDR.out] at K2
            have X1 := H.note Q M2 K2 ⟨by omega, by omega⟩
            have X2 := OP'.blk (M2.block p7 OP'.lt (by omega) (by omega))
            have HX := hideIt (And.intro X1 X2)
            clear X1 X2 K2 M2 hcl H OP' F c14 hq6
            go_wp2
            go_meet
            case rel => exact ⟨rfl, HX.out⟩
          case rest =>
          clear hcl H OP' F c14
          obtain ⟨rfl, H, OP'⟩ := hcut
          by_cases k9 : o.kd = 9
          · have OPc := OP'.c0
            rw [k9] at OPc
            clear k9
            have hlv := timer_any H.l.m (id := (o.x : Int)) (by omega) (by have := ho.x; omega)
            obtain ⟨g0, g1, g2, g3, g4, g5⟩ := OP'
            have HLIVE : Hid (noteX o c χ (o.x : Int) = true → (τ'.tm (o.x : Int)).isSome = false) := hideIt (cano_live HC'.out (o.x : Int))
            generalize (τ'.tm (o.x : Int)).isSome = lv at *
            clear g0
            go_upto_region 15 with fail
            go_cut [11] (fun a11 wd => a11 = .bool lv ∧ LC w.heap.size w wd B mb (afterF t (tickOf o)) (4 * i + 4) ν' τ' bk pb cb (4 * i + 1) τ'.tm (noteX o c χ) wk.heap.size ∧ wd.cell? ⟨p7, 4, none⟩ = some (.int .u64 (o.x : Int)))
            case first =>
              go_wp2_with fail
              refine hlv.mono ?_
              rintro e w2 ⟨a1, a2, a3, a4, rfl, hb2⟩
              have H2 := H.keep hb2
              have g4' : w2.cell? ⟨p7, 4, none⟩ = some (.int .u64 (o.x : Int)) := (World.cell?_of_block (a := ⟨p7, 4, none⟩) (hb2.block p7 (World.block_lt_of_cell? _ _ g4))).trans g4
              clear hlv H g1 g2 g3 g4 g5 hb2 OPc
              simp only [timerV]
              go_wp2
              go_meet
              case rel => exact ⟨rfl, H2.keep (one_alloc _ _), (World.cell?_of_block (a := ⟨p7, 4, none⟩) ((one_alloc w2 _).block p7 (World.block_lt_of_cell? _ _ g4'))).trans g4'⟩
            case rest =>
            clear hlv H g1 g2 g3 g4 g5 OPc
            obtain ⟨rfl, H, dp0⟩ := hcut
            have d4 : (World.drew wc).cell? ⟨wk.heap.size, 0, none⟩ = some (.pointer (some ⟨bk, 0, none⟩)) := H.c
            have dk : (World.drew wc).cell? ⟨bk, 1, none⟩ = some (.map (some cb)) := H.l.bo.c1
            have dp : (World.drew wc).cell? ⟨p7, 4, none⟩ = some (.int .u64 (o.x : Int)) := dp0
            have dl := H.l.bo.drew.cm.look (id := (o.x : Int)) (by omega) (by have := ho.x; omega)
            clear dp0
            cases hch : noteX o c χ (o.x : Int) with
            | false =>
              rw [hch] at dl
              clear hch
              go_wp2_with fail
              refine wp_region_held_drew (S := (fun w' => w'.cell? ⟨wk.heap.size, 0, none⟩ = some (.pointer (some ⟨bk, 0, none⟩)) ∧ w'.cell? ⟨bk, 1, none⟩ = some (.map (some cb)) ∧ w'.cell? ⟨p7, 4, none⟩ = some (.int .u64 (o.x : Int)) ∧ (Instr.lookup 89 (.map (some cb)) (.int .u64 (o.x : Int)) false).run Tryz.prog w' = .ok (.bool false) w')) (by kernel_rfl) ⟨d4, dk, dp, dl⟩ (fun hHeld => ?_)
              refine wpAnyH_take (i := 0) (oi := { dst := some 54, op := Go.Op.load 78 (Go.Operand.tmp 4), type := 78, pos := _, after := #[], guard := none }) (v := ?vv1) rfl (by kernel_rfl) (by kernel_rfl) (by kernel_rfl) (fun _ _ _ h => h) (Or.inl ⟨by rfl, ?hy1⟩) (by assumption) ?tk1
              case hy1 => (intro w hSw; (try dsimp only at hSw); go_simp; (try with_reducible rfl))
              try simp only [Act.put, List.setIfInBounds_toArray, List.set_cons_zero, List.set_cons_succ]
              refine wpAnyH_take (i := 1) (oi := { dst := some 55, op := Go.Op.nilCheck (Go.Operand.tmp 54), type := 0, pos := _, after := #[{ on := 0, ground := Go.Ground.data }], guard := none }) (v := ?vv2) rfl (by kernel_rfl) (by kernel_rfl) (by kernel_rfl) (fun _ _ _ h => h) (Or.inl ⟨by rfl, ?hy2⟩) (by assumption) ?tk2
              case hy2 => (intro w hSw; (try dsimp only at hSw); go_simp; (try with_reducible rfl))
              try simp only [Act.put, List.setIfInBounds_toArray, List.set_cons_zero, List.set_cons_succ]
              refine wpAnyH_take (i := 2) (oi := { dst := some 56, op := Go.Op.fieldAddr 91 (Go.Operand.tmp 55) 1, type := 0, pos := _, after := #[{ on := 1, ground := Go.Ground.data }], guard := none }) (v := ?vv3) rfl (by kernel_rfl) (by kernel_rfl) (by kernel_rfl) (fun _ _ _ h => h) (Or.inl ⟨by rfl, ?hy3⟩) (by assumption) ?tk3
              case hy3 => (intro w hSw; (try dsimp only at hSw); go_simp; (try with_reducible rfl))
              try simp only [Act.put, List.setIfInBounds_toArray, List.set_cons_zero, List.set_cons_succ]
              refine wpAnyH_take (i := 3) (oi := { dst := some 57, op := Go.Op.load 89 (Go.Operand.tmp 56), type := 89, pos := _, after := #[{ on := 2, ground := Go.Ground.data }], guard := none }) (v := ?vv4) rfl (by kernel_rfl) (by kernel_rfl) (by kernel_rfl) (fun _ _ _ h => h) (Or.inl ⟨by rfl, ?hy4⟩) (by assumption) ?tk4
              case hy4 => (intro w hSw; (try dsimp only at hSw); go_simp; (try with_reducible rfl))
              try simp only [Act.put, List.setIfInBounds_toArray, List.set_cons_zero, List.set_cons_succ]
              refine wpAnyH_take (i := 4) (oi := { dst := some 58, op := Go.Op.fieldAddr 32 (Go.Operand.tmp 7) 4, type := 0, pos := _, after := #[], guard := none }) (v := ?vv5) rfl (by kernel_rfl) (by kernel_rfl) (by kernel_rfl) (fun _ _ _ h => h) (Or.inl ⟨by rfl, ?hy5⟩) (by assumption) ?tk5
              case hy5 => (intro w hSw; (try dsimp only at hSw); go_simp; (try with_reducible rfl))
              try simp only [Act.put, List.setIfInBounds_toArray, List.set_cons_zero, List.set_cons_succ]
              refine wpAnyH_take (i := 5) (oi := { dst := some 59, op := Go.Op.load 28 (Go.Operand.tmp 58), type := 28, pos := _, after := #[{ on := 4, ground := Go.Ground.data }], guard := none }) (v := ?vv6) rfl (by kernel_rfl) (by kernel_rfl) (by kernel_rfl) (fun _ _ _ h => h) (Or.inl ⟨by rfl, ?hy6⟩) (by assumption) ?tk6
              case hy6 => (intro w hSw; (try dsimp only at hSw); go_simp; (try with_reducible rfl))
              try simp only [Act.put, List.setIfInBounds_toArray, List.set_cons_zero, List.set_cons_succ]
              refine wpAnyH_take (i := 6) (oi := { dst := some 60, op := Go.Op.lookup 89 (Go.Operand.tmp 57) (Go.Operand.tmp 59) false, type := 4, pos := _, after := #[{ on := 3, ground := Go.Ground.data }, { on := 5, ground := Go.Ground.data }], guard := none }) (v := ?vv7) rfl (by kernel_rfl) (by kernel_rfl) (by kernel_rfl) (fun _ _ _ h => h) (Or.inl ⟨by rfl, ?hy7⟩) (by assumption) ?tk7
              case hy7 => (intro w hSw; (try dsimp only at hSw); go_simp; (try with_reducible rfl))
              try simp only [Act.put, List.setIfInBounds_toArray, List.set_cons_zero, List.set_cons_succ]
              refine wpAnyH_take (i := 7) (oi := { dst := some 61, op := Go.Op.move (Go.Operand.tmp 60), type := 4, pos := _, after := #[{ on := 6, ground := Go.Ground.data }], guard := none }) (v := ?vv8) rfl (by kernel_rfl) (by kernel_rfl) (by kernel_rfl) (fun _ _ _ h => h) (Or.inl ⟨by rfl, ?hy8⟩) (by assumption) ?tk8
              case hy8 => (intro w hSw; (try dsimp only at hSw); go_simp; (try with_reducible rfl))
              try simp only [Act.put, List.setIfInBounds_toArray, List.set_cons_zero, List.set_cons_succ]
              refine wpAnyH_take (i := 8) (oi := { dst := some 62, op := Go.Op.move (Go.Operand.tmp 11), type := 4, pos := _, after := #[{ on := 7, ground := Go.Ground.guard }], guard := some (7, true) }) (v := undef) rfl (by kernel_rfl) (by kernel_rfl) (by kernel_rfl) (fun _ _ _ h => h) (Or.inr ⟨by rfl, rfl⟩) (by assumption) ?tk9
              try simp only [Act.put, List.setIfInBounds_toArray, List.set_cons_zero, List.set_cons_succ]
              refine wpAnyH_take (i := 9) (oi := { dst := some 63, op := Go.Op.pick (Go.Operand.tmp 61) (Go.Operand.tmp 62) (Go.Operand.const (Go.Value.bool false)), type := 4, pos := _, after := #[{ on := 7, ground := Go.Ground.data }, { on := 8, ground := Go.Ground.data }], guard := none }) (v := ?vv10) rfl (by kernel_rfl) (by kernel_rfl) (by kernel_rfl) (fun _ _ _ h => h) (Or.inl ⟨by rfl, ?hy10⟩) (by assumption) ?tk10
              case hy10 => (intro w hSw; (try dsimp only at hSw); go_simp; (try with_reducible rfl))
              try simp only [Act.put, List.setIfInBounds_toArray, List.set_cons_zero, List.set_cons_succ]
              refine wpAnyH_done (by kernel_rfl) ?_ _
              go_wp2
              go_meet
              case rel => exact ⟨_, ν', τ', _, (H.drewN 1).mono (by omega) (by omega), HC'⟩
            | true =>
              rw [hch] at dl
              have hlv0 := HLIVE.out hch
              subst hlv0
              clear hch
              go_wp2_with fail
              refine wp_region_held_drew (S := (fun w' => w'.cell? ⟨wk.heap.size, 0, none⟩ = some (.pointer (some ⟨bk, 0, none⟩)) ∧ w'.cell? ⟨bk, 1, none⟩ = some (.map (some cb)) ∧ w'.cell? ⟨p7, 4, none⟩ = some (.int .u64 (o.x : Int)) ∧ (Instr.lookup 89 (.map (some cb)) (.int .u64 (o.x : Int)) false).run Tryz.prog w' = .ok (.bool true) w')) (by kernel_rfl) ⟨d4, dk, dp, dl⟩ (fun hHeld => ?_)
              refine wpAnyH_take (i := 0) (oi := { dst := some 54, op := Go.Op.load 78 (Go.Operand.tmp 4), type := 78, pos := _, after := #[], guard := none }) (v := ?vv11) rfl (by kernel_rfl) (by kernel_rfl) (by kernel_rfl) (fun _ _ _ h => h) (Or.inl ⟨by rfl, ?hy11⟩) (by assumption) ?tk11
              case hy11 => (intro w hSw; (try dsimp only at hSw); go_simp; (try with_reducible rfl))
              try simp only [Act.put, List.setIfInBounds_toArray, List.set_cons_zero, List.set_cons_succ]
              refine wpAnyH_take (i := 1) (oi := { dst := some 55, op := Go.Op.nilCheck (Go.Operand.tmp 54), type := 0, pos := _, after := #[{ on := 0, ground := Go.Ground.data }], guard := none }) (v := ?vv12) rfl (by kernel_rfl) (by kernel_rfl) (by kernel_rfl) (fun _ _ _ h => h) (Or.inl ⟨by rfl, ?hy12⟩) (by assumption) ?tk12
              case hy12 => (intro w hSw; (try dsimp only at hSw); go_simp; (try with_reducible rfl))
              try simp only [Act.put, List.setIfInBounds_toArray, List.set_cons_zero, List.set_cons_succ]
              refine wpAnyH_take (i := 2) (oi := { dst := some 56, op := Go.Op.fieldAddr 91 (Go.Operand.tmp 55) 1, type := 0, pos := _, after := #[{ on := 1, ground := Go.Ground.data }], guard := none }) (v := ?vv13) rfl (by kernel_rfl) (by kernel_rfl) (by kernel_rfl) (fun _ _ _ h => h) (Or.inl ⟨by rfl, ?hy13⟩) (by assumption) ?tk13
              case hy13 => (intro w hSw; (try dsimp only at hSw); go_simp; (try with_reducible rfl))
              try simp only [Act.put, List.setIfInBounds_toArray, List.set_cons_zero, List.set_cons_succ]
              refine wpAnyH_take (i := 3) (oi := { dst := some 57, op := Go.Op.load 89 (Go.Operand.tmp 56), type := 89, pos := _, after := #[{ on := 2, ground := Go.Ground.data }], guard := none }) (v := ?vv14) rfl (by kernel_rfl) (by kernel_rfl) (by kernel_rfl) (fun _ _ _ h => h) (Or.inl ⟨by rfl, ?hy14⟩) (by assumption) ?tk14
              case hy14 => (intro w hSw; (try dsimp only at hSw); go_simp; (try with_reducible rfl))
              try simp only [Act.put, List.setIfInBounds_toArray, List.set_cons_zero, List.set_cons_succ]
              refine wpAnyH_take (i := 4) (oi := { dst := some 58, op := Go.Op.fieldAddr 32 (Go.Operand.tmp 7) 4, type := 0, pos := _, after := #[], guard := none }) (v := ?vv15) rfl (by kernel_rfl) (by kernel_rfl) (by kernel_rfl) (fun _ _ _ h => h) (Or.inl ⟨by rfl, ?hy15⟩) (by assumption) ?tk15
              case hy15 => (intro w hSw; (try dsimp only at hSw); go_simp; (try with_reducible rfl))
              try simp only [Act.put, List.setIfInBounds_toArray, List.set_cons_zero, List.set_cons_succ]
              refine wpAnyH_take (i := 5) (oi := { dst := some 59, op := Go.Op.load 28 (Go.Operand.tmp 58), type := 28, pos := _, after := #[{ on := 4, ground := Go.Ground.data }], guard := none }) (v := ?vv16) rfl (by kernel_rfl) (by kernel_rfl) (by kernel_rfl) (fun _ _ _ h => h) (Or.inl ⟨by rfl, ?hy16⟩) (by assumption) ?tk16
              case hy16 => (intro w hSw; (try dsimp only at hSw); go_simp; (try with_reducible rfl))
              try simp only [Act.put, List.setIfInBounds_toArray, List.set_cons_zero, List.set_cons_succ]
              refine wpAnyH_take (i := 6) (oi := { dst := some 60, op := Go.Op.lookup 89 (Go.Operand.tmp 57) (Go.Operand.tmp 59) false, type := 4, pos := _, after := #[{ on := 3, ground := Go.Ground.data }, { on := 5, ground := Go.Ground.data }], guard := none }) (v := ?vv17) rfl (by kernel_rfl) (by kernel_rfl) (by kernel_rfl) (fun _ _ _ h => h) (Or.inl ⟨by rfl, ?hy17⟩) (by assumption) ?tk17
              case hy17 => (intro w hSw; (try dsimp only at hSw); go_simp; (try with_reducible rfl))
              try simp only [Act.put, List.setIfInBounds_toArray, List.set_cons_zero, List.set_cons_succ]
              refine wpAnyH_take (i := 7) (oi := { dst := some 61, op := Go.Op.move (Go.Operand.tmp 60), type := 4, pos := _, after := #[{ on := 6, ground := Go.Ground.data }], guard := none }) (v := ?vv18) rfl (by kernel_rfl) (by kernel_rfl) (by kernel_rfl) (fun _ _ _ h => h) (Or.inl ⟨by rfl, ?hy18⟩) (by assumption) ?tk18
              case hy18 => (intro w hSw; (try dsimp only at hSw); go_simp; (try with_reducible rfl))
              try simp only [Act.put, List.setIfInBounds_toArray, List.set_cons_zero, List.set_cons_succ]
              refine wpAnyH_take (i := 8) (oi := { dst := some 62, op := Go.Op.move (Go.Operand.tmp 11), type := 4, pos := _, after := #[{ on := 7, ground := Go.Ground.guard }], guard := some (7, true) }) (v := ?vv19) rfl (by kernel_rfl) (by kernel_rfl) (by kernel_rfl) (fun _ _ _ h => h) (Or.inl ⟨by rfl, ?hy19⟩) (by assumption) ?tk19
              case hy19 => (intro w hSw; (try dsimp only at hSw); go_simp; (try with_reducible rfl))
              try simp only [Act.put, List.setIfInBounds_toArray, List.set_cons_zero, List.set_cons_succ]
              refine wpAnyH_take (i := 9) (oi := { dst := some 63, op := Go.Op.pick (Go.Operand.tmp 61) (Go.Operand.tmp 62) (Go.Operand.const (Go.Value.bool false)), type := 4, pos := _, after := #[{ on := 7, ground := Go.Ground.data }, { on := 8, ground := Go.Ground.data }], guard := none }) (v := ?vv20) rfl (by kernel_rfl) (by kernel_rfl) (by kernel_rfl) (fun _ _ _ h => h) (Or.inl ⟨by rfl, ?hy20⟩) (by assumption) ?tk20
              case hy20 => (intro w hSw; (try dsimp only at hSw); go_simp; (try with_reducible rfl))
              try simp only [Act.put, List.setIfInBounds_toArray, List.set_cons_zero, List.set_cons_succ]
              refine wpAnyH_done (by kernel_rfl) ?_ _
              go_wp2
              go_meet
              case rel => exact ⟨_, ν', τ', _, (H.drewN 1).mono (by omega) (by omega), HC'⟩
          · by_cases k8 : o.kd = 8
            · have OPc := OP'.c0
              rw [k8] at OPc
              clear k8 k9
              have hlv := timer_any H.l.m (id := (o.x : Int)) (by omega) (by have := ho.x; omega)
              obtain ⟨g0, g1, g2, g3, g4, g5⟩ := OP'
              have HLIVE : Hid (noteX o c χ (o.x : Int) = true → (τ'.tm (o.x : Int)).isSome = false) := hideIt (cano_live HC'.out (o.x : Int))
              generalize (τ'.tm (o.x : Int)).isSome = lv at *
              clear g0
              go_upto_region 15 with fail
              go_cut [11] (fun a11 wd => a11 = .bool lv ∧ LC w.heap.size w wd B mb (afterF t (tickOf o)) (4 * i + 4) ν' τ' bk pb cb (4 * i + 1) τ'.tm (noteX o c χ) wk.heap.size ∧ wd.cell? ⟨p7, 4, none⟩ = some (.int .u64 (o.x : Int)))
              case first =>
                go_wp2_with fail
                refine hlv.mono ?_
                rintro e w2 ⟨a1, a2, a3, a4, rfl, hb2⟩
                have H2 := H.keep hb2
                have g4' : w2.cell? ⟨p7, 4, none⟩ = some (.int .u64 (o.x : Int)) := (World.cell?_of_block (a := ⟨p7, 4, none⟩) (hb2.block p7 (World.block_lt_of_cell? _ _ g4))).trans g4
                clear hlv H g1 g2 g3 g4 g5 hb2 OPc
                simp only [timerV]
                go_wp2
                go_meet
                case rel => exact ⟨rfl, H2.keep (one_alloc _ _), (World.cell?_of_block (a := ⟨p7, 4, none⟩) ((one_alloc w2 _).block p7 (World.block_lt_of_cell? _ _ g4'))).trans g4'⟩
              case rest =>
              clear hlv H g1 g2 g3 g4 g5 OPc
              obtain ⟨rfl, H, dp0⟩ := hcut
              have d4 : (World.drew wc).cell? ⟨wk.heap.size, 0, none⟩ = some (.pointer (some ⟨bk, 0, none⟩)) := H.c
              have dk : (World.drew wc).cell? ⟨bk, 1, none⟩ = some (.map (some cb)) := H.l.bo.c1
              have dp : (World.drew wc).cell? ⟨p7, 4, none⟩ = some (.int .u64 (o.x : Int)) := dp0
              have dl := H.l.bo.drew.cm.look (id := (o.x : Int)) (by omega) (by have := ho.x; omega)
              clear dp0
              cases hch : noteX o c χ (o.x : Int) with
              | false =>
                rw [hch] at dl
                clear hch
                go_wp2_with fail
                refine wp_region_held_drew (S := (fun w' => w'.cell? ⟨wk.heap.size, 0, none⟩ = some (.pointer (some ⟨bk, 0, none⟩)) ∧ w'.cell? ⟨bk, 1, none⟩ = some (.map (some cb)) ∧ w'.cell? ⟨p7, 4, none⟩ = some (.int .u64 (o.x : Int)) ∧ (Instr.lookup 89 (.map (some cb)) (.int .u64 (o.x : Int)) false).run Tryz.prog w' = .ok (.bool false) w')) (by kernel_rfl) ⟨d4, dk, dp, dl⟩ (fun hHeld => ?_)
                refine wpAnyH_take (i := 0) (oi := { dst := some 54, op := Go.Op.load 78 (Go.Operand.tmp 4), type := 78, pos := _, after := #[], guard := none }) (v := ?vv21) rfl (by kernel_rfl) (by kernel_rfl) (by kernel_rfl) (fun _ _ _ h => h) (Or.inl ⟨by rfl, ?hy21⟩) (by assumption) ?tk21
                case hy21 => (intro w hSw; (try dsimp only at hSw); go_simp; (try with_reducible rfl))
                try simp only [Act.put, List.setIfInBounds_toArray, List.set_cons_zero, List.set_cons_succ]
                refine wpAnyH_take (i := 1) (oi := { dst := some 55, op := Go.Op.nilCheck (Go.Operand.tmp 54), type := 0, pos := _, after := #[{ on := 0, ground := Go.Ground.data }], guard := none }) (v := ?vv22) rfl (by kernel_rfl) (by kernel_rfl) (by kernel_rfl) (fun _ _ _ h => h) (Or.inl ⟨by rfl, ?hy22⟩) (by assumption) ?tk22
                case hy22 => (intro w hSw; (try dsimp only at hSw); go_simp; (try with_reducible rfl))
                try simp only [Act.put, List.setIfInBounds_toArray, List.set_cons_zero, List.set_cons_succ]
                refine wpAnyH_take (i := 2) (oi := { dst := some 56, op := Go.Op.fieldAddr 91 (Go.Operand.tmp 55) 1, type := 0, pos := _, after := #[{ on := 1, ground := Go.Ground.data }], guard := none }) (v := ?vv23) rfl (by kernel_rfl) (by kernel_rfl) (by kernel_rfl) (fun _ _ _ h => h) (Or.inl ⟨by rfl, ?hy23⟩) (by assumption) ?tk23
                case hy23 => (intro w hSw; (try dsimp only at hSw); go_simp; (try with_reducible rfl))
                try simp only [Act.put, List.setIfInBounds_toArray, List.set_cons_zero, List.set_cons_succ]
                refine wpAnyH_take (i := 3) (oi := { dst := some 57, op := Go.Op.load 89 (Go.Operand.tmp 56), type := 89, pos := _, after := #[{ on := 2, ground := Go.Ground.data }], guard := none }) (v := ?vv24) rfl (by kernel_rfl) (by kernel_rfl) (by kernel_rfl) (fun _ _ _ h => h) (Or.inl ⟨by rfl, ?hy24⟩) (by assumption) ?tk24
                case hy24 => (intro w hSw; (try dsimp only at hSw); go_simp; (try with_reducible rfl))
                try simp only [Act.put, List.setIfInBounds_toArray, List.set_cons_zero, List.set_cons_succ]
                refine wpAnyH_take (i := 4) (oi := { dst := some 58, op := Go.Op.fieldAddr 32 (Go.Operand.tmp 7) 4, type := 0, pos := _, after := #[], guard := none }) (v := ?vv25) rfl (by kernel_rfl) (by kernel_rfl) (by kernel_rfl) (fun _ _ _ h => h) (Or.inl ⟨by rfl, ?hy25⟩) (by assumption) ?tk25
                case hy25 => (intro w hSw; (try dsimp only at hSw); go_simp; (try with_reducible rfl))
                try simp only [Act.put, List.setIfInBounds_toArray, List.set_cons_zero, List.set_cons_succ]
                refine wpAnyH_take (i := 5) (oi := { dst := some 59, op := Go.Op.load 28 (Go.Operand.tmp 58), type := 28, pos := _, after := #[{ on := 4, ground := Go.Ground.data }], guard := none }) (v := ?vv26) rfl (by kernel_rfl) (by kernel_rfl) (by kernel_rfl) (fun _ _ _ h => h) (Or.inl ⟨by rfl, ?hy26⟩) (by assumption) ?tk26
                case hy26 => (intro w hSw; (try dsimp only at hSw); go_simp; (try with_reducible rfl))
                try simp only [Act.put, List.setIfInBounds_toArray, List.set_cons_zero, List.set_cons_succ]
                refine wpAnyH_take (i := 6) (oi := { dst := some 60, op := Go.Op.lookup 89 (Go.Operand.tmp 57) (Go.Operand.tmp 59) false, type := 4, pos := _, after := #[{ on := 3, ground := Go.Ground.data }, { on := 5, ground := Go.Ground.data }], guard := none }) (v := ?vv27) rfl (by kernel_rfl) (by kernel_rfl) (by kernel_rfl) (fun _ _ _ h => h) (Or.inl ⟨by rfl, ?hy27⟩) (by assumption) ?tk27
                case hy27 => (intro w hSw; (try dsimp only at hSw); go_simp; (try with_reducible rfl))
                try simp only [Act.put, List.setIfInBounds_toArray, List.set_cons_zero, List.set_cons_succ]
                refine wpAnyH_take (i := 7) (oi := { dst := some 61, op := Go.Op.move (Go.Operand.tmp 60), type := 4, pos := _, after := #[{ on := 6, ground := Go.Ground.data }], guard := none }) (v := ?vv28) rfl (by kernel_rfl) (by kernel_rfl) (by kernel_rfl) (fun _ _ _ h => h) (Or.inl ⟨by rfl, ?hy28⟩) (by assumption) ?tk28
                case hy28 => (intro w hSw; (try dsimp only at hSw); go_simp; (try with_reducible rfl))
                try simp only [Act.put, List.setIfInBounds_toArray, List.set_cons_zero, List.set_cons_succ]
                refine wpAnyH_take (i := 8) (oi := { dst := some 62, op := Go.Op.move (Go.Operand.tmp 11), type := 4, pos := _, after := #[{ on := 7, ground := Go.Ground.guard }], guard := some (7, true) }) (v := undef) rfl (by kernel_rfl) (by kernel_rfl) (by kernel_rfl) (fun _ _ _ h => h) (Or.inr ⟨by rfl, rfl⟩) (by assumption) ?tk29
                try simp only [Act.put, List.setIfInBounds_toArray, List.set_cons_zero, List.set_cons_succ]
                refine wpAnyH_take (i := 9) (oi := { dst := some 63, op := Go.Op.pick (Go.Operand.tmp 61) (Go.Operand.tmp 62) (Go.Operand.const (Go.Value.bool false)), type := 4, pos := _, after := #[{ on := 7, ground := Go.Ground.data }, { on := 8, ground := Go.Ground.data }], guard := none }) (v := ?vv30) rfl (by kernel_rfl) (by kernel_rfl) (by kernel_rfl) (fun _ _ _ h => h) (Or.inl ⟨by rfl, ?hy30⟩) (by assumption) ?tk30
                case hy30 => (intro w hSw; (try dsimp only at hSw); go_simp; (try with_reducible rfl))
                try simp only [Act.put, List.setIfInBounds_toArray, List.set_cons_zero, List.set_cons_succ]
                refine wpAnyH_done (by kernel_rfl) ?_ _
                go_wp2
                go_meet
                case rel => exact ⟨_, ν', τ', _, (H.drewN 1).mono (by omega) (by omega), HC'⟩
              | true =>
                rw [hch] at dl
                have hlv0 := HLIVE.out hch
                subst hlv0
                clear hch
                go_wp2_with fail
                refine wp_region_held_drew (S := (fun w' => w'.cell? ⟨wk.heap.size, 0, none⟩ = some (.pointer (some ⟨bk, 0, none⟩)) ∧ w'.cell? ⟨bk, 1, none⟩ = some (.map (some cb)) ∧ w'.cell? ⟨p7, 4, none⟩ = some (.int .u64 (o.x : Int)) ∧ (Instr.lookup 89 (.map (some cb)) (.int .u64 (o.x : Int)) false).run Tryz.prog w' = .ok (.bool true) w')) (by kernel_rfl) ⟨d4, dk, dp, dl⟩ (fun hHeld => ?_)
                refine wpAnyH_take (i := 0) (oi := { dst := some 54, op := Go.Op.load 78 (Go.Operand.tmp 4), type := 78, pos := _, after := #[], guard := none }) (v := ?vv31) rfl (by kernel_rfl) (by kernel_rfl) (by kernel_rfl) (fun _ _ _ h => h) (Or.inl ⟨by rfl, ?hy31⟩) (by assumption) ?tk31
                case hy31 => (intro w hSw; (try dsimp only at hSw); go_simp; (try with_reducible rfl))
                try simp only [Act.put, List.setIfInBounds_toArray, List.set_cons_zero, List.set_cons_succ]
                refine wpAnyH_take (i := 1) (oi := { dst := some 55, op := Go.Op.nilCheck (Go.Operand.tmp 54), type := 0, pos := _, after := #[{ on := 0, ground := Go.Ground.data }], guard := none }) (v := ?vv32) rfl (by kernel_rfl) (by kernel_rfl) (by kernel_rfl) (fun _ _ _ h => h) (Or.inl ⟨by rfl, ?hy32⟩) (by assumption) ?tk32
                case hy32 => (intro w hSw; (try dsimp only at hSw); go_simp; (try with_reducible rfl))
                try simp only [Act.put, List.setIfInBounds_toArray, List.set_cons_zero, List.set_cons_succ]
                refine wpAnyH_take (i := 2) (oi := { dst := some 56, op := Go.Op.fieldAddr 91 (Go.Operand.tmp 55) 1, type := 0, pos := _, after := #[{ on := 1, ground := Go.Ground.data }], guard := none }) (v := ?vv33) rfl (by kernel_rfl) (by kernel_rfl) (by kernel_rfl) (fun _ _ _ h => h) (Or.inl ⟨by rfl, ?hy33⟩) (by assumption) ?tk33
                case hy33 => (intro w hSw; (try dsimp only at hSw); go_simp; (try with_reducible rfl))
                try simp only [Act.put, List.setIfInBounds_toArray, List.set_cons_zero, List.set_cons_succ]
                refine wpAnyH_take (i := 3) (oi := { dst := some 57, op := Go.Op.load 89 (Go.Operand.tmp 56), type := 89, pos := _, after := #[{ on := 2, ground := Go.Ground.data }], guard := none }) (v := ?vv34) rfl (by kernel_rfl) (by kernel_rfl) (by kernel_rfl) (fun _ _ _ h => h) (Or.inl ⟨by rfl, ?hy34⟩) (by assumption) ?tk34
                case hy34 => (intro w hSw; (try dsimp only at hSw); go_simp; (try with_reducible rfl))
                try simp only [Act.put, List.setIfInBounds_toArray, List.set_cons_zero, List.set_cons_succ]
                refine wpAnyH_take (i := 4) (oi := { dst := some 58, op := Go.Op.fieldAddr 32 (Go.Operand.tmp 7) 4, type := 0, pos := _, after := #[], guard := none }) (v := ?vv35) rfl (by kernel_rfl) (by kernel_rfl) (by kernel_rfl) (fun _ _ _ h => h) (Or.inl ⟨by rfl, ?hy35⟩) (by assumption) ?tk35
                case hy35 => (intro w hSw; (try dsimp only at hSw); go_simp; (try with_reducible rfl))
                try simp only [Act.put, List.setIfInBounds_toArray, List.set_cons_zero, List.set_cons_succ]
                refine wpAnyH_take (i := 5) (oi := { dst := some 59, op := Go.Op.load 28 (Go.Operand.tmp 58), type := 28, pos := _, after := #[{ on := 4, ground := Go.Ground.data }], guard := none }) (v := ?vv36) rfl (by kernel_rfl) (by kernel_rfl) (by kernel_rfl) (fun _ _ _ h => h) (Or.inl ⟨by rfl, ?hy36⟩) (by assumption) ?tk36
                case hy36 => (intro w hSw; (try dsimp only at hSw); go_simp; (try with_reducible rfl))
                try simp only [Act.put, List.setIfInBounds_toArray, List.set_cons_zero, List.set_cons_succ]
                refine wpAnyH_take (i := 6) (oi := { dst := some 60, op := Go.Op.lookup 89 (Go.Operand.tmp 57) (Go.Operand.tmp 59) false, type := 4, pos := _, after := #[{ on := 3, ground := Go.Ground.data }, { on := 5, ground := Go.Ground.data }], guard := none }) (v := ?vv37) rfl (by kernel_rfl) (by kernel_rfl) (by kernel_rfl) (fun _ _ _ h => h) (Or.inl ⟨by rfl, ?hy37⟩) (by assumption) ?tk37
                case hy37 => (intro w hSw; (try dsimp only at hSw); go_simp; (try with_reducible rfl))
                try simp only [Act.put, List.setIfInBounds_toArray, List.set_cons_zero, List.set_cons_succ]
                refine wpAnyH_take (i := 7) (oi := { dst := some 61, op := Go.Op.move (Go.Operand.tmp 60), type := 4, pos := _, after := #[{ on := 6, ground := Go.Ground.data }], guard := none }) (v := ?vv38) rfl (by kernel_rfl) (by kernel_rfl) (by kernel_rfl) (fun _ _ _ h => h) (Or.inl ⟨by rfl, ?hy38⟩) (by assumption) ?tk38
                case hy38 => (intro w hSw; (try dsimp only at hSw); go_simp; (try with_reducible rfl))
                try simp only [Act.put, List.setIfInBounds_toArray, List.set_cons_zero, List.set_cons_succ]
                refine wpAnyH_take (i := 8) (oi := { dst := some 62, op := Go.Op.move (Go.Operand.tmp 11), type := 4, pos := _, after := #[{ on := 7, ground := Go.Ground.guard }], guard := some (7, true) }) (v := ?vv39) rfl (by kernel_rfl) (by kernel_rfl) (by kernel_rfl) (fun _ _ _ h => h) (Or.inl ⟨by rfl, ?hy39⟩) (by assumption) ?tk39
                case hy39 => (intro w hSw; (try dsimp only at hSw); go_simp; (try with_reducible rfl))
                try simp only [Act.put, List.setIfInBounds_toArray, List.set_cons_zero, List.set_cons_succ]
                refine wpAnyH_take (i := 9) (oi := { dst := some 63, op := Go.Op.pick (Go.Operand.tmp 61) (Go.Operand.tmp 62) (Go.Operand.const (Go.Value.bool false)), type := 4, pos := _, after := #[{ on := 7, ground := Go.Ground.data }, { on := 8, ground := Go.Ground.data }], guard := none }) (v := ?vv40) rfl (by kernel_rfl) (by kernel_rfl) (by kernel_rfl) (fun _ _ _ h => h) (Or.inl ⟨by rfl, ?hy40⟩) (by assumption) ?tk40
                case hy40 => (intro w hSw; (try dsimp only at hSw); go_simp; (try with_reducible rfl))
                try simp only [Act.put, List.setIfInBounds_toArray, List.set_cons_zero, List.set_cons_succ]
                refine wpAnyH_done (by kernel_rfl) ?_ _
                go_wp2
                go_meet
                case rel => exact ⟨_, ν', τ', _, (H.drewN 1).mono (by omega) (by omega), HC'⟩
            · have q9 : ((o.kd : Int) == 9) = false := by simp; omega
              have q8 : ((o.kd : Int) == 8) = false := by simp; omega
              obtain ⟨g0, g1, g2, g3, g4, g5⟩ := OP'
              clear k9 k8
              go_wp2
              go_meet
              case rel => exact ⟨_, ν', τ', _, H.mono (by omega) (by omega), HC'⟩
        case rest =>
          obtain ⟨t', ν', τ', χ', H', HC'⟩ := hcut
          go_wp2
          go_roundg (n - (i + 1))
          case measure => omega
          case rel => exact ⟨i + 1, t', ν', τ', χ', by omega, by go_num, H', HC'⟩
      · have e : i = n := by omega
        subst e
        have hadv := advance_m (n := 18446744073709551615) H.l.m (by omega)
        have hadv' : Calls Tryz.prog 43 #[.pointer (some ⟨B, 0, none⟩), .int .u64 18446744073709551615] wr _ := hadv
        have htl := H.l.m.tlt
        have HID : Hid (∀ id v, τ.tm id = some v → 0 ≤ id ∧ id < 18446744073709551616) := hideIt (fun id v q => H.l.m.idr q)
        clear hadv
        go_wp2_with fail
        refine hadv'.mono ?_
        rintro e w2 ⟨v, l, τ', rfl, hF, D, hA⟩
        rw [after_max t htl] at D
        have hA2 : AdvR τ.tm τ'.tm 18446744073709551615 (afterF t 1) l := by
          rcases hA.2 with ⟨h0, _⟩ | ⟨_, h1⟩
          · omega
          · rw [after_max t htl] at h1; exact h1
        have HGONE := hideIt (gone_all D.m hA2)
        have hq4 := HQ4.out
        have H2 := H.step Q D ⟨by omega, by omega⟩
        obtain ⟨pp, cap, rfl⟩ := fired_shape hF
        obtain ⟨_, hFS⟩ := fired_in hF
        have l1 := H.l.bo.lt
        have hcl := clean_any H2.l.bo H2.c hFS ⟨by omega, by omega⟩ ⟨by omega, by omega⟩ (fun e he => by
          have h1 := (hA2.fin e he).1
          refine ⟨HID.out _ _ h1, ?_⟩
          cases hx : χ e.id with
          | false => rfl
          | true => rw [(HC.out e.id hx).1] at h1; simp at h1)
        rw [drops_all hA2] at hcl
        clear hadv' hA hF hA2 hFS D HID H
        go_wp2_with fail
        refine hcl.mono ?_
        rintro e w3 ⟨rfl, K3, M3⟩
        have H3 := H2.note Q M3 K3 ⟨by omega, by omega⟩
        clear hcl H2 K3 M3 l1 hq4
        obtain ⟨ks, hnd, hks, hkr, s, hWh, hlive⟩ := H3.l.m.pend
        have hk0 : ks = [] := by
          cases ks with
          | nil => rfl
          | cons a q =>
            have := (hks a).1 (by simp)
            rw [HGONE.out a] at this
            simp at this
        subst hk0
        have HLN := H3.l.bo.pm.size 3 hnd hks hkr
        have hp := pending_any hWh
        rw [hlive] at hp
        have d4 := H3.c
        have dk := H3.l.bo.c0
        have HB := hideIt H3.l.b
        simp only [List.length_nil] at HLN hp
        clear H3 hWh hlive hks hkr hnd
        go_wp2_with fail
        refine hp.mono ?_
        rintro e w4 ⟨rfl, rfl⟩
        go_wp2
        go_ret
        exact ⟨rfl, HB.out⟩
  · rw [decide_eq_false hb] at hsm
    go_enter Tryz.func7, Tryz.ntmps7
    go_wp2_with fail
    refine hsm.mono ?_
    rintro e w ⟨rfl, rfl⟩
    go_wp2
    go_ret
    exact ⟨rfl, Below.refl _ _⟩
end Go.Proofs.Qxb6500877aGreatDoor
