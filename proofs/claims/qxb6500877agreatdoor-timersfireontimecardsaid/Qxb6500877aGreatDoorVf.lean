import Derived.Deep.CutBlock
import Derived.Test.Qxb6500877aGreatDoorVf1
import Derived.Test.Qxb6500877aGreatDoorVd
import Derived.Test.Qxb6500877aGreatDoorUMl
set_option linter.unusedVariables false
set_option linter.unusedSimpArgs false
namespace Go.Proofs.Qxb6500877aGreatDoor
open Go.RowKit

set_option maxRecDepth 20000 in
set_option maxHeartbeats 16000000 in
theorem law6_of (hstep : ∀ (w : World) (B mb t k : Nat) (ν : Net) (τ : TSt), Mach w B mb t k ν τ → k < 800000 → ∀ (o : OpS), o.ok → Calls Tryz.prog 19 #[.pointer (some ⟨B, 0, none⟩), opV o] w fun e w' => ∃ (c tm : Int) (v : Value) (l : List FiredS) (ν' : Net) (τ' : TSt), ResG c tm v e ∧ FiredAt w' w.heap.size v l ∧ Done w w' B mb (afterF t (tickOf o)) (k + 4) ν' τ' ∧ TimR o t τ c tm l τ')
    {p : Option Addr} {n c : Nat} {L : List OpS} {w : World} (h : OpsIn w p L) (hn : L.length = n) (hok : ∀ o ∈ L, o.ok) (hnc : n ≤ c) (V : Vac w) (TB : TabAt w) (h2 : 2 < w.heap.size) :
    Calls Tryz.prog 6 #[.slice p n c] w fun e w' => e = .returned (.bool true) ∧ Below w.heap.size w w' := by
  have HST : Hid (∀ {w : World} {B mb t k : Nat} {ν : Net} {τ : TSt}, Mach w B mb t k ν τ → k < 800000 → ∀ (o : OpS), o.ok → Calls Tryz.prog 19 #[.pointer (some ⟨B, 0, none⟩), opV o] w fun e w' => ∃ (c tm : Int) (v : Value) (l : List FiredS) (ν' : Net) (τ' : TSt), ResG c tm v e ∧ FiredAt w' w.heap.size v l ∧ Done w w' B mb (afterF t (tickOf o)) (k + 4) ν' τ' ∧ TimR o t τ c tm l τ') := hideIt (hstep _ _ _ _ _ _ _)
  clear hstep
  have hsm := small_any (p := p) (n := n) (c := c) w
  by_cases hb : n ≤ 65536
  · rw [decide_eq_true hb] at hsm
    go_enter Tryz.func6, Tryz.ntmps6
    go_wp2_with fail
    refine hsm.mono ?_
    rintro e w ⟨rfl, rfl⟩
    go_wp2_with fail
    refine (new_any V TB h2).mono ?_
    rintro e w1 ⟨B, mb, rfl, M1, hwB, hwm, hb1⟩
    go_wp2_with fail
    refine (book_new w1).mono ?_
    rintro e w2 ⟨bk, pb, cb, rfl, K, k1, k2, k3, hb2⟩
    obtain ⟨Q, H0⟩ := lt_new M1 hwB hwm h2 hb1 K k1 k2 k3 hb2
    clear M1 hwB hwm hb1 K k1 k2 k3 hb2
    go_wp2_with fail
    go_loopg [25] n (fun gg v wr => ∃ (i t : Nat) (ν : Net) (τ : TSt) (χ : Int → Bool), i + gg = n ∧ v = .int .i64 (i : Int) ∧ LT w.heap.size w wr B mb t (4 * i) ν τ bk pb cb (4 * i) τ.tm χ)
    case atStart => exact ⟨0, 0, net0, τ0, _, by omega, rfl, H0⟩
    case round =>
      clear H0
      obtain ⟨i, t, ν, τ, χ, hig, rfl, H⟩ := hrel
      by_cases hi : i < n
      · have i0 : (0 : Int) ≤ i := by omega
        have i1 : (i : Int) < (n : Int) := by omega
        have hi' : i < L.length := by omega
        obtain ⟨b, off, rfl, hcs⟩ : ∃ b off, p = some ⟨b, off, none⟩ ∧ ∀ j (h : j < L.length), OpCs w b (off + j * 6) L[j] := by
          rcases h with h | h
          · rw [h] at hi'; simp at hi'
          · exact h
        have hC := hcs i hi'
        have ho := hok _ (List.getElem_mem hi')
        generalize L[i] = o at hC ho
        obtain ⟨c0, c1, c2, c3, c4, c5⟩ := hC
        have d0 := cell_later H.b c0
        have d1 := cell_later H.b c1
        have d2 := cell_later H.b c2
        have d3 := cell_later H.b c3
        have d4 := cell_later H.b c4
        have d5 := cell_later H.b c5
        clear c0 c1 c2 c3 c4 c5 hcs
        go_upto_block 1 with fail
        go_cut [] (fun wc => ∃ (t' : Nat) (ν' : Net) (τ' : TSt) (χ' : Int → Bool), LT w.heap.size w wc B mb t' (4 * i + 4) ν' τ' bk pb cb (4 * i + 4) τ'.tm χ')
        case first =>
          go_upto_region 7 with fail
          go_cut [6] (fun a6 wc => ∃ p6 : Nat, a6 = .pointer (some ⟨p6, 0, none⟩) ∧ OpAt wc p6 o ∧ LT w.heap.size w wc B mb t (4 * i) ν τ bk pb cb (4 * i) τ.tm χ ∧ Hid (w.heap.size ≤ p6 ∧ bk < p6 ∧ pb < p6 ∧ cb < p6 ∧ B < p6 ∧ mb < p6))
          case first =>
            go_wp2
            go_meet
            case rel =>
              have l1 := H.bo.lt
              have l2 := H.m.lt
              have l3 := H.m.mlt
              exact ⟨wr.heap.size, rfl, op_new wr o 32, H.keep (one_alloc _ _), hideIt ⟨H.s, by omega, by omega, by omega, by omega, by omega⟩⟩
          case rest =>
          clear d0 d1 d2 d3 d4 d5 H
          obtain ⟨p6, rfl, OP, H, HPB⟩ := hcut
          have hnow := now_any H.m.clk
          go_wp2_with fail
          refine hnow.mono ?_
          rintro e wc ⟨rfl, rfl⟩
          clear hnow
          have hst := HST.out H.m (by omega) o ho
          unfold opV at hst
          have htl := H.m.tlt
          obtain ⟨hnx0, hnx1⟩ := H.m.nxr
          have HID : Hid (∀ id v, τ.tm id = some v → 0 ≤ id ∧ id < 18446744073709551616) := hideIt (fun id v q => H.m.idr q)
          have OP' := OP
          obtain ⟨g0, g1, g2, g3, g4, g5⟩ := OP
          have hp6' := OP'.lt
          go_upto_region 9 with fail
          go_cut [8] (fun a8 wd => ∃ (b8 : Nat) (c co tk tm : Int) (hm : Bool) (mm : MsgV) (pp : Option Addr) (cap : Nat) (l : List FiredS) (ν' : Net) (τ' : TSt), a8 = .pointer (some ⟨b8, 0, none⟩) ∧ RgAt wd b8 c co tk tm hm mm pp l.length cap ∧ OpAt wd p6 o ∧ LT w.heap.size w wd B mb (afterF t (tickOf o)) (4 * i + 4) ν' τ' bk pb cb (4 * i) τ.tm χ ∧ FS wd (p6 + 1) pp cap l ∧ p6 < b8 ∧ Hid (TimR o t τ c tm l τ'))
          case first =>
            go_wp2_with fail
            refine hst.mono ?_
            rintro e w2 ⟨c, tm, v, l, ν', τ', ⟨co, tk, hm, mm, pp, a, nn, rfl, rfl⟩, hF, D, hT⟩
            have HT := hideIt hT
            have H2 := H.step Q D
            obtain ⟨rfl, hFS⟩ := fired_in hF
            have hsz := D.f.size
            have hq6 := HPB.out
            have OP2 := OP'.blk (D.f.block p6 hp6' (by omega) (by omega))
            have FS2 := hFS.wide (base' := p6 + 1) (by omega)
            clear hT hF hst D hFS H OP' g0 g1 g2 g3 g4 g5
            unfold resV
            go_wp2
            go_meet
            case rel =>
              have b1 := one_alloc w2 (.cells #[.int .i64 c, .int .i64 co, .int .i64 tk, .int .u64 tm, .bool hm, .int .i64 mm.mf, .int .i64 mm.mt, .int .u32 mm.md, .int .u64 mm.mq, .int .u64 mm.ma, .int .u64 mm.x0, .int .u64 mm.x1, .int .u64 mm.x2, .int .u64 mm.x3, .slice pp l.length nn] 43)
              exact ⟨w2.heap.size, c, co, tk, tm, hm, mm, pp, nn, l, ν', τ', rfl, rg_new w2 c co tk tm hm mm pp l.length nn 43, OP2.blk (b1.block _ (by omega)), H2.keep b1, FS2.below b1, by omega, HT⟩
          case rest =>
          clear hst H OP' g0 g1 g2 g3 g4 g5 hp6'
          obtain ⟨b8, c, co, tk, tm, hm, mm, pp, cap, l, ν', τ', rfl, RG, OP, H, F, hb8, HT⟩ := hcut
          have hnt := note_any H.bo (by omega) ho htl (c := c) (co := co) (tk := tk) (tm := tm) (hm := hm) (mm := mm) (p := pp) (a' := l.length) (n' := cap) (fun hk hc => by
            rcases HT.out with ⟨h1, _⟩ | ⟨_, _, _, h4, _⟩
            · omega
            · have := h4 hk hc
              omega) (fun hk hc => by
            rcases HT.out with ⟨h1, _⟩ | ⟨_, _, _, _, h5⟩
            · omega
            · exact h5 hk hc)
          unfold opV resV at hnt
          have OP' := OP
          have RG' := RG
          obtain ⟨g0, g1, g2, g3, g4, g5⟩ := OP
          obtain ⟨r0, r1, r2, r3, r4, r5, r6, r7, r8, r9, r10, r11, r12, r13, r14⟩ := RG
          go_upto_region 10 with fail
          go_cut [] (fun wd => ∃ χ' : Int → Bool, LT w.heap.size w wd B mb (afterF t (tickOf o)) (4 * i + 4) ν' τ' bk pb cb (4 * i + 1) (noteT o c tm t τ.tm) χ' ∧ OpAt wd p6 o ∧ wd.cell? ⟨b8, 14, none⟩ = some (.slice pp l.length cap) ∧ FS wd (p6 + 1) pp cap l)
          case first =>
            go_wp2_with fail
            refine hnt.mono ?_
            rintro e w2 ⟨rfl, K2, M2⟩
            have hq6 := HPB.out
            have X1 := H.note Q M2 K2
            have X2 := OP'.blk (M2.block p6 OP'.lt (by omega) (by omega))
            have X3 := (World.cell?_of_block (a := ⟨b8, 14, none⟩) (M2.block b8 RG'.lt (by omega) (by omega))).trans RG'.c14
            have X4 := F.keep M2.size (fun q h1 h2 => M2.block q h2 (by omega) (by omega))
            have HX := hideIt (And.intro X1 (And.intro X2 (And.intro X3 X4)))
            clear X1 X2 X3 X4 K2 M2 hnt H OP' RG' F g0 g1 g2 g3 g4 g5 r0 r1 r2 r3 r4 r5 r6 r7 r8 r9 r10 r11 r12 r13 r14
            go_wp2
            go_meet
            case rel => exact ⟨_, HX.out⟩
          case rest =>
          clear hnt H OP' RG' F g0 g1 g2 g3 g4 g5 r0 r1 r2 r3 r4 r5 r6 r7 r8 r9 r10 r11 r12 r13 r14
          obtain ⟨χ', H, OP', c14, F⟩ := hcut
          have htk := ticksOf_any o wc
          unfold opV at htk
          obtain ⟨g0, g1, g2, g3, g4, g5⟩ := OP'
          rcases tim_note HT.out with ⟨h0, rfl, hn⟩ | ⟨h0, hn, A⟩
          · rw [hn] at H
            rw [h0] at htk
            simp only [List.length_nil] at c14
            clear hn HT
            go_wp2_with fail
            refine htk.mono ?_
            rintro e w2 ⟨rfl, hb2⟩
            have c14 := (World.cell?_of_block (a := ⟨b8, 14, none⟩) (hb2.block b8 (World.block_lt_of_cell? _ _ c14))).trans c14
            have H := H.keep hb2
            clear hb2 g0 g1 g2 g3 g4 g5 F
            go_wp2
            go_meet
            case rel => exact ⟨_, ν', τ', χ', H.mono (by omega) (by omega)⟩
          · rw [hn] at H
            have hz : ((((tickOf o : Nat) : Int)) == 0) = false := by simp; omega
            have HPB2 := HPB
            clear hn HT
            go_upto_region 11 with fail
            go_cut [41] (fun a41 wd => a41 = .bool false ∧ Below wc.heap.size wc wd)
            case first =>
              go_wp2_with fail
              refine htk.mono ?_
              rintro e w2 ⟨rfl, hb2⟩
              have HB2 := hideIt hb2
              clear hb2
              go_wp2
              go_meet
              case rel => exact ⟨rfl, HB2.out⟩
            case rest =>
            clear htk g0 g1 g2 g3 g4 g5
            obtain ⟨rfl, hcut⟩ := hcut
            have c14 := (World.cell?_of_block (a := ⟨b8, 14, none⟩) (hcut.block b8 (World.block_lt_of_cell? _ _ c14))).trans c14
            have H := H.keep hcut
            have F := F.below hcut
            clear hcut hz
            have hlat := later_any htl (n := 1) (by omega) wc
            have hnow := now_any H.m.clk
            generalize afterF t (tickOf o) = til at *
            generalize afterF t 1 = ft at *
            have HLATE : Hid (∀ id v, τ'.tm id = some v → (til : Int) < v.dl) := hideIt A.late
            have OP6 : Hid (p6 < w.heap.size ∨ True) := hideIt (.inr trivial)
            go_wp2_with fail
            refine hlat.mono ?_
            rintro e wq ⟨rfl, rfl⟩
            go_wp2_with fail
            refine hnow.mono ?_
            rintro e wq ⟨rfl, rfl⟩
            clear hlat hnow
            have hll := F.len
            go_upto_block 2 with fail
            go_cut [] (fun wd => LT w.heap.size w wd B mb til (4 * i + 4) ν' τ' bk pb cb (4 * i + 1) τ'.tm χ')
            case first =>
              go_wp2_with fail
              go_loopg [53] l.length (fun gg v wr => ∃ j : Nat, j + gg = l.length ∧ v = .int .i64 (j : Int) ∧ LT w.heap.size w wr B mb til (4 * i + 4) ν' τ' bk pb cb (4 * i + 1) (drops τ.tm (l.take j)) χ' ∧ wr.cell? ⟨b8, 14, none⟩ = some (.slice pp l.length cap) ∧ FS wr (p6 + 1) pp cap l)
              case atStart => exact ⟨0, by omega, rfl, by rw [List.take_zero, drops_nil]; exact H, c14, F⟩
              case round =>
                clear H c14 F
                obtain ⟨j, hjg, rfl, H, c14, F⟩ := hrel
                by_cases hj : j < l.length
                · have j0 : (0 : Int) ≤ j := by omega
                  have j1 : (j : Int) < (l.length : Int) := by omega
                  obtain ⟨e, hej⟩ : ∃ e, l[j]? = some e := ⟨l[j], List.getElem?_eq_getElem hj⟩
                  obtain ⟨hτe, hdl0, het0⟩ := A.fin e (List.mem_of_getElem? hej)
                  have HET := hideIt het0
                  have HDL := hideIt hdl0
                  clear hdl0 het0
                  obtain ⟨hid0, hid1⟩ := HID.out e.id _ hτe
                  obtain ⟨g, rfl, hg1, hg2, hFA, hcap⟩ : ∃ g, pp = some ⟨g, 0, none⟩ ∧ p6 + 1 ≤ g ∧ g < wr.heap.size ∧ FA wr g l ∧ l.length ≤ cap ∧ cap ≤ maxLen := by
                    rcases F with F | F
                    · rw [F] at hj; simp at hj
                    · exact F
                  obtain ⟨e0, e1, e2, e3, e4⟩ := hFA j e hej
                  have HE := hideIt hej
                  have HDR := hideIt (drops_at A hej)
                  clear hej hτe hFA
                  go_upto_block 3 with fail
                  go_cut [] (fun wd => LT w.heap.size w wd B mb til (4 * i + 4) ν' τ' bk pb cb (4 * i + 1) (drops τ.tm (l.take (j + 1))) χ' ∧ wd.cell? ⟨b8, 14, none⟩ = some (.slice (some ⟨g, 0, none⟩) l.length cap) ∧ FS wd (p6 + 1) (some ⟨g, 0, none⟩) cap l)
                  case first =>
                    go_upto_region 17 with fail
                    go_cut [12, 11] (fun a12 a11 wd => ∃ b12 : Nat, a12 = .pointer (some ⟨b12, 0, none⟩) ∧ a11 = .int .i64 (j : Int) ∧ F5 wd b12 0 e ∧ LT w.heap.size w wd B mb til (4 * i + 4) ν' τ' bk pb cb (4 * i + 1) (drops τ.tm (l.take j)) χ' ∧ wd.cell? ⟨b8, 14, none⟩ = some (.slice (some ⟨g, 0, none⟩) l.length cap) ∧ FS wd (p6 + 1) (some ⟨g, 0, none⟩) cap l ∧ p6 < b12)
                    case first =>
                      have hp6s := OP6.out
                      go_wp2
                      go_meet
                      case rel =>
                        have b1 := one_alloc wr (.cells #[.int .u64 e.id, .int .i64 e.core, .int .u64 e.dl, .int .u64 e.ck, .int .u64 e.t] 86)
                        exact ⟨wr.heap.size, rfl, rfl, f5_new wr e 86, H.keep b1, (World.cell?_of_block (a := ⟨b8, 14, none⟩) (b1.block b8 (World.block_lt_of_cell? _ _ c14))).trans c14, F.below b1, by have := H.s; omega⟩
                    case rest =>
                    clear H c14 F e0 e1 e2 e3 e4 hg2
                    obtain ⟨b12, rfl, rfl, F12, H, c14, F, h12⟩ := hcut
                    have hb12 : b12 < wc.heap.size := World.block_lt_of_cell? _ _ F12.c0
                    have HS : Hid (∀ W : World, (∀ k, k < wc.heap.size → W.heap[k]? = wc.heap[k]?) → W.cell? ⟨bk, 0, none⟩ = some (.map (some pb)) ∧ W.cell? ⟨b12, 0, none⟩ = some (.int .u64 e.id) ∧ (Instr.lookup 88 (.map (some pb)) (.int .u64 e.id) true).run Tryz.prog W = .ok (.tuple #[.agg #[.int .u64 e.id, .int .i64 e.core, .int .u64 e.dl, .int .u64 e.ck], .bool true]) W) := hideIt (fun W hW => by
                      obtain ⟨l1, l2, l3⟩ := H.bo.lt
                      have K := H.bo.keep (w' := W) (fun k hk => hW k (by omega))
                      refine ⟨K.c0, (F12.blk (hW b12 hb12)).c0, ?_⟩
                      have := K.pm.look hid0 hid1
                      rw [HDR.out] at this
                      exact this)
                    go_upto_region 18 with fail
                    go_cut [13, 14] (fun a13 a14 wd => ∃ b13 : Nat, a13 = .pointer (some ⟨b13, 0, none⟩) ∧ a14 = .bool true ∧ Four wd b13 e.id e.core e.dl e.ck ∧ F5 wd b12 0 e ∧ LT w.heap.size w wd B mb til (4 * i + 4) ν' τ' bk pb cb (4 * i + 1) (drops τ.tm (l.take j)) χ' ∧ wd.cell? ⟨b8, 14, none⟩ = some (.slice (some ⟨g, 0, none⟩) l.length cap) ∧ FS wd (p6 + 1) (some ⟨g, 0, none⟩) cap l)
                    case first =>
                      refine wp_region_held_drew (S := (fun w' => w'.cell? ⟨bk, 0, none⟩ = some (.map (some pb)) ∧ w'.cell? ⟨b12, 0, none⟩ = some (.int .u64 e.id) ∧ (Instr.lookup 88 (.map (some pb)) (.int .u64 e.id) true).run Tryz.prog w' = .ok (.tuple #[.agg #[.int .u64 e.id, .int .i64 e.core, .int .u64 e.dl, .int .u64 e.ck], .bool true]) w')) (by kernel_rfl) (HS.out _ (fun k hk => rfl)) (fun hHeld => ?_)
                      refine wpAnyH_take (i := 0) (oi := { dst := some 59, op := Go.Op.move (Go.Operand.tmp 4), type := 78, pos := _, after := #[], guard := none }) (v := ?vv1) rfl (by kernel_rfl) (by kernel_rfl) (by kernel_rfl) (fun _ _ _ h => h) (Or.inl ⟨by rfl, ?hy1⟩) (by assumption) ?tk1
                      case hy1 => (intro w hSw; (try dsimp only at hSw); go_simp; (try with_reducible rfl))
                      try simp only [Act.put, List.setIfInBounds_toArray, List.set_cons_zero, List.set_cons_succ]
                      refine wpAnyH_take (i := 1) (oi := { dst := some 60, op := Go.Op.nilCheck (Go.Operand.tmp 59), type := 0, pos := _, after := #[{ on := 0, ground := Go.Ground.data }], guard := none }) (v := ?vv2) rfl (by kernel_rfl) (by kernel_rfl) (by kernel_rfl) (fun _ _ _ h => h) (Or.inl ⟨by rfl, ?hy2⟩) (by assumption) ?tk2
                      case hy2 => (intro w hSw; (try dsimp only at hSw); go_simp; (try with_reducible rfl))
                      try simp only [Act.put, List.setIfInBounds_toArray, List.set_cons_zero, List.set_cons_succ]
                      refine wpAnyH_take (i := 2) (oi := { dst := some 61, op := Go.Op.fieldAddr 91 (Go.Operand.tmp 60) 0, type := 0, pos := _, after := #[{ on := 1, ground := Go.Ground.data }], guard := none }) (v := ?vv3) rfl (by kernel_rfl) (by kernel_rfl) (by kernel_rfl) (fun _ _ _ h => h) (Or.inl ⟨by rfl, ?hy3⟩) (by assumption) ?tk3
                      case hy3 => (intro w hSw; (try dsimp only at hSw); go_simp; (try with_reducible rfl))
                      try simp only [Act.put, List.setIfInBounds_toArray, List.set_cons_zero, List.set_cons_succ]
                      refine wpAnyH_take (i := 3) (oi := { dst := some 62, op := Go.Op.load 88 (Go.Operand.tmp 61), type := 88, pos := _, after := #[{ on := 2, ground := Go.Ground.data }], guard := none }) (v := ?vv4) rfl (by kernel_rfl) (by kernel_rfl) (by kernel_rfl) (fun _ _ _ h => h) (Or.inl ⟨by rfl, ?hy4⟩) (by assumption) ?tk4
                      case hy4 => (intro w hSw; (try dsimp only at hSw); go_simp; (try with_reducible rfl))
                      try simp only [Act.put, List.setIfInBounds_toArray, List.set_cons_zero, List.set_cons_succ]
                      refine wpAnyH_take (i := 4) (oi := { dst := some 63, op := Go.Op.fieldAddr 86 (Go.Operand.tmp 12) 0, type := 0, pos := _, after := #[], guard := none }) (v := ?vv5) rfl (by kernel_rfl) (by kernel_rfl) (by kernel_rfl) (fun _ _ _ h => h) (Or.inl ⟨by rfl, ?hy5⟩) (by assumption) ?tk5
                      case hy5 => (intro w hSw; (try dsimp only at hSw); go_simp; (try with_reducible rfl))
                      try simp only [Act.put, List.setIfInBounds_toArray, List.set_cons_zero, List.set_cons_succ]
                      refine wpAnyH_take (i := 5) (oi := { dst := some 64, op := Go.Op.fieldAddr 84 (Go.Operand.tmp 63) 0, type := 0, pos := _, after := #[{ on := 4, ground := Go.Ground.data }], guard := none }) (v := ?vv6) rfl (by kernel_rfl) (by kernel_rfl) (by kernel_rfl) (fun _ _ _ h => h) (Or.inl ⟨by rfl, ?hy6⟩) (by assumption) ?tk6
                      case hy6 => (intro w hSw; (try dsimp only at hSw); go_simp; (try with_reducible rfl))
                      try simp only [Act.put, List.setIfInBounds_toArray, List.set_cons_zero, List.set_cons_succ]
                      refine wpAnyH_take (i := 6) (oi := { dst := some 65, op := Go.Op.load 36 (Go.Operand.tmp 64), type := 36, pos := _, after := #[{ on := 5, ground := Go.Ground.data }], guard := none }) (v := ?vv7) rfl (by kernel_rfl) (by kernel_rfl) (by kernel_rfl) (fun _ _ _ h => h) (Or.inl ⟨by rfl, ?hy7⟩) (by assumption) ?tk7
                      case hy7 => (intro w hSw; (try dsimp only at hSw); go_simp; (try with_reducible rfl))
                      try simp only [Act.put, List.setIfInBounds_toArray, List.set_cons_zero, List.set_cons_succ]
                      refine wpAnyH_take (i := 7) (oi := { dst := some 66, op := Go.Op.lookup 88 (Go.Operand.tmp 62) (Go.Operand.tmp 65) true, type := 87, pos := _, after := #[{ on := 3, ground := Go.Ground.data }, { on := 6, ground := Go.Ground.data }], guard := none }) (v := ?vv8) rfl (by kernel_rfl) (by kernel_rfl) (by kernel_rfl) (fun _ _ _ h => h) (Or.inl ⟨by rfl, ?hy8⟩) (by assumption) ?tk8
                      case hy8 => (intro w hSw; (try dsimp only at hSw); go_simp; (try with_reducible rfl))
                      try simp only [Act.put, List.setIfInBounds_toArray, List.set_cons_zero, List.set_cons_succ]
                      refine wpAnyH_take (i := 8) (oi := { dst := some 58, op := Go.Op.move (Go.Operand.tmp 66), type := 87, pos := _, after := #[{ on := 7, ground := Go.Ground.data }], guard := none }) (v := ?vv9) rfl (by kernel_rfl) (by kernel_rfl) (by kernel_rfl) (fun _ _ _ h => h) (Or.inl ⟨by rfl, ?hy9⟩) (by assumption) ?tk9
                      case hy9 => (intro w hSw; (try dsimp only at hSw); go_simp; (try with_reducible rfl))
                      try simp only [Act.put, List.setIfInBounds_toArray, List.set_cons_zero, List.set_cons_succ]
                      refine wpAnyH_take (i := 9) (oi := { dst := some 67, op := Go.Op.extract (Go.Operand.tmp 58) 0, type := 84, pos := _, after := #[{ on := 8, ground := Go.Ground.data }], guard := none }) (v := ?vv10) rfl (by kernel_rfl) (by kernel_rfl) (by kernel_rfl) (fun _ _ _ h => h) (Or.inl ⟨by rfl, ?hy10⟩) (by assumption) ?tk10
                      case hy10 => (intro w hSw; (try dsimp only at hSw); go_simp; (try with_reducible rfl))
                      try simp only [Act.put, List.setIfInBounds_toArray, List.set_cons_zero, List.set_cons_succ]
                      refine wpAnyH_take (i := 10) (oi := { dst := some 68, op := Go.Op.extract (Go.Operand.tmp 58) 1, type := 4, pos := _, after := #[{ on := 8, ground := Go.Ground.data }, { on := 12, ground := Go.Ground.gcOnly Go.Departure.lateStores }], guard := none }) (v := ?vv11) rfl (by kernel_rfl) (by kernel_rfl) (by kernel_rfl) (fun _ _ _ h => h) (Or.inl ⟨by rfl, ?hy11⟩) (by assumption) ?tk11
                      case hy11 => (intro w hSw; (try dsimp only at hSw); go_simp; (try with_reducible rfl))
                      try simp only [Act.put, List.setIfInBounds_toArray, List.set_cons_zero, List.set_cons_succ]
                      refine wpAnyH_ready (rs := [11]) (by kernel_rfl) (by simp) ?_
                      refine AllReadyH.cons (o := { dst := some 13, op := Go.Op.alloc 84, type := 0, pos := _, after := #[], guard := none }) rfl (fun K' hK' => ?_) AllReadyH.nil
                      go_simp
                      clear hHeld
                      refine hK'.out _ _ (HS.out _ (fun k hk => (one_alloc (World.drew wc) _).block k hk)) (fun hHeld => ?_)
                      clear hK' K'
                      try simp only [Act.put, List.setIfInBounds_toArray, List.set_cons_zero, List.set_cons_succ]
                      refine wpAnyH_ready (rs := [12]) (by kernel_rfl) (by simp) ?_
                      refine AllReadyH.cons (o := { dst := none, op := Go.Op.store 84 (Go.Operand.tmp 13) (Go.Operand.tmp 67), type := 0, pos := _, after := #[{ on := 11, ground := Go.Ground.data }, { on := 9, ground := Go.Ground.data }, { on := 0, ground := Go.Ground.phase }, { on := 1, ground := Go.Ground.phase }, { on := 2, ground := Go.Ground.phase }, { on := 3, ground := Go.Ground.phase }, { on := 4, ground := Go.Ground.phase }, { on := 5, ground := Go.Ground.phase }, { on := 6, ground := Go.Ground.phase }, { on := 7, ground := Go.Ground.phase }, { on := 8, ground := Go.Ground.phase }, { on := 9, ground := Go.Ground.phase }, { on := 10, ground := Go.Ground.textOnly Go.Departure.lateStores }, { on := 11, ground := Go.Ground.phase }], guard := none }) rfl (fun K' hK' => ?_) AllReadyH.nil
                      go_simp
                      clear hHeld
                      refine hK'.out _ _ (HS.out _ (fun k hk => (by first | exact (one_alloc (World.drew wc) _).block k hk | (rw [heap_set (by show wc.heap.size ≠ k; omega), heap_set (by show wc.heap.size ≠ k; omega), heap_set (by show wc.heap.size ≠ k; omega), heap_set (by show wc.heap.size ≠ k; omega)]; exact (one_alloc (World.drew wc) _).block k hk)))) (fun hHeld => ?_)
                      clear hK' K'
                      try simp only [Act.put, List.setIfInBounds_toArray, List.set_cons_zero, List.set_cons_succ]
                      refine wpAnyH_take (i := 13) (oi := { dst := some 14, op := Go.Op.assign (Go.Operand.tmp 68), type := 4, pos := _, after := #[{ on := 10, ground := Go.Ground.data }, { on := 12, ground := Go.Ground.chain }, { on := 0, ground := Go.Ground.phase }, { on := 1, ground := Go.Ground.phase }, { on := 2, ground := Go.Ground.phase }, { on := 3, ground := Go.Ground.phase }, { on := 4, ground := Go.Ground.phase }, { on := 5, ground := Go.Ground.phase }, { on := 6, ground := Go.Ground.phase }, { on := 7, ground := Go.Ground.phase }, { on := 8, ground := Go.Ground.phase }, { on := 9, ground := Go.Ground.phase }, { on := 10, ground := Go.Ground.phase }, { on := 11, ground := Go.Ground.phase }, { on := 12, ground := Go.Ground.phase }], guard := none }) (v := ?vv12) rfl (by kernel_rfl) (by kernel_rfl) (by kernel_rfl) (fun _ _ _ h => h) (Or.inl ⟨by rfl, ?hy12⟩) (by assumption) ?tk12
                      case hy12 => (intro w hSw; (try dsimp only at hSw); go_simp; (try with_reducible rfl))
                      try simp only [Act.put, List.setIfInBounds_toArray, List.set_cons_zero, List.set_cons_succ]
                      refine wpAnyH_done (by kernel_rfl) ?_ _
                      go_wp2
                      go_meet
                      case rel =>
                        have b1 := one_alloc wc (.cells #[.int .u64 e.id, .int .i64 e.core, .int .u64 e.dl, .int .u64 e.ck] 84)
                        exact ⟨wc.heap.size, rfl, rfl, (four_new wc e.id e.core e.dl e.ck 84).of_block rfl, F12.blk (b1.block b12 hb12), (H.keep b1).drewN 1, (World.cell?_of_block (a := ⟨b8, 14, none⟩) (b1.block b8 (World.block_lt_of_cell? _ _ c14))).trans c14, (F.below b1).drew⟩
                    case rest =>
                    clear H c14 F F12 hb12 HS
                    obtain ⟨b13, rfl, rfl, Z, F12, H, c14, F⟩ := hcut
                    have hmx : (if (ft : Int) > e.dl then (ft : Int) else e.dl) = e.t := by
                      rw [HET.out]
                      rw [Int.max_def]
                      by_cases q : (ft : Int) > e.dl
                      · rw [if_pos q, if_pos (by omega)]
                      · rw [if_neg q]
                        split <;> omega
                    have hmx2 : (if e.dl < (ft : Int) then (ft : Int) else e.dl) = e.t := hmx
                    have hnd : ¬ ((til : Int) < e.dl) := by have := HDL.out; omega
                    have hnd2 : ¬ (e.dl > (til : Int)) := by have := HDL.out; omega
                    have hneq := tm_neq e.id e.core e.dl e.ck
                    have hgd := guard84
                    have Z' := Z
                    have F12' := F12
                    obtain ⟨z0, z1, z2, z3, zf⟩ := Z
                    obtain ⟨f0, f1, f2, f3, f4⟩ := F12
                    go_upto_if 91 with fail
                    clear hmx hmx2 hnd hnd2 hneq hgd
                    have Z := Z'
                    have HFA : Hid (FA wc g l) := hideIt (by
                      rcases F with F | ⟨g', q1, _, _, q4, _⟩
                      · rw [F] at hj; simp at hj
                      · cases q1; exact q4)
                    go_cut [] (fun wd => Below wc.heap.size wc wd)
                    case first =>
                      by_cases hj0 : j = 0
                      · subst hj0
                        go_wp2
                        go_meet
                        case rel => exact Below.refl _ _
                      · obtain ⟨i', rfl⟩ : ∃ i', j = i' + 1 := ⟨j - 1, by omega⟩
                        obtain ⟨pe, hpe⟩ : ∃ pe, l[i']? = some pe := ⟨l[i'], List.getElem?_eq_getElem (by omega)⟩
                        have hbf := A.before (Nat.lt_succ_self i') hpe HE.out
                        obtain ⟨y0, y1, y2, y3, y4⟩ := HFA.out i' pe hpe
                        have hpos : ((i' + 1 : Nat) : Int) > 0 := by omega
                        have hi63 : (i' : Int) ≤ 9223372036854775807 := by omega
                        have i0' : (0 : Int) ≤ (i' : Int) := by omega
                        have i1' : (i' : Int) < (l.length : Int) := by omega
                        have HB := hideIt hbf
                        clear hbf hpe
                        go_upto_region 24 with fail
                        go_cut [15] (fun a15 wd => ∃ b15 : Nat, a15 = .pointer (some ⟨b15, 0, none⟩) ∧ Four wd b15 pe.id pe.core pe.dl pe.ck ∧ Four wd b13 e.id e.core e.dl e.ck ∧ Below wc.heap.size wc wd)
                        case first =>
                          go_wp2
                          go_meet
                          case rel =>
                            have b1 := one_alloc wc (.cells #[.int .u64 pe.id, .int .i64 pe.core, .int .u64 pe.dl, .int .u64 pe.ck] 84)
                            exact ⟨wc.heap.size, rfl, four_new wc pe.id pe.core pe.dl pe.ck 84, Z.of_block (b1.block b13 Z.lt), b1⟩
                        case rest =>
                        clear y0 y1 y2 y3 y4 z0 z1 z2 z3 f0 f1 f2 f3 f4 c14
                        obtain ⟨b15, rfl, X, Z2, hbw⟩ := hcut
                        obtain ⟨z0, z1, z2, z3, zf⟩ := Z2
                        obtain ⟨x0, x1, x2, x3, xf⟩ := X
                        have HBW := hideIt hbw
                        clear hbw
                        rcases HB.out with hb | ⟨hb, hb2⟩
                        · have q1 : ¬ (e.dl < pe.dl) := by omega
                          have q2 : ¬ (pe.dl > e.dl) := by omega
                          have q3 : (pe.dl == e.dl) = false := by simp; omega
                          clear hb
                          go_wp2
                          go_meet
                          case rel => exact HBW.out
                        · have q1 : ¬ (e.dl < pe.dl) := by omega
                          have q2 : ¬ (pe.dl > e.dl) := by omega
                          have q3 : (pe.dl == e.dl) = true := by simp; omega
                          have q4 : ¬ (e.id ≤ pe.id) := by omega
                          have q5 : ¬ (pe.id ≥ e.id) := by omega
                          clear hb hb2
                          go_wp2
                          go_meet
                          case rel => exact HBW.out
                    case rest =>
                    clear f0 f1 f2 f3 f4 z0 z1 z2 z3
                    have H := H.keep hcut
                    have F := F.below hcut
                    have c14 := (World.cell?_of_block (a := ⟨b8, 14, none⟩) (hcut.block b8 (World.block_lt_of_cell? _ _ c14))).trans c14
                    have F12 := F12'.blk (hcut.block b12 (World.block_lt_of_cell? _ _ F12'.c0))
                    clear F12' Z Z' hcut HFA
                    obtain ⟨w3, hrun, hm3, ht3⟩ := H.bo.drew.pm.drop (id := e.id) hid0 hid1 0
                    have HM := hideIt (And.intro hm3 ht3)
                    have hpb := Q.hp
                    obtain ⟨l1, l2, l3⟩ := H.bo.lt
                    have k0 : w3.cell? ⟨bk, 0, none⟩ = some (.map (some pb)) := (World.cell?_of_block (a := ⟨bk, 0, none⟩) (turned_block ht3 H.bo.ne.1)).trans H.bo.c0
                    have hne12 : b12 ≠ pb := by have := HPB.out; omega
                    have k4 : w3.cell? ⟨b12, 0, none⟩ = some (.int .u64 e.id) := (World.cell?_of_block (a := ⟨b12, 0, none⟩) (turned_block ht3 hne12)).trans F12.c0
                    clear hm3 ht3
                    go_wp2_with fail
                    refine wp_region_held_drew (S := (fun w' => w'.cell? ⟨bk, 0, none⟩ = some (.map (some pb)) ∧ w'.cell? ⟨b12, 0, none⟩ = some (.int .u64 e.id))) (by kernel_rfl) ⟨H.bo.c0, F12.c0⟩ (fun hHeld => ?_)
                    refine wpAnyH_take (i := 0) (oi := { dst := some 118, op := Go.Op.move (Go.Operand.tmp 4), type := 78, pos := _, after := #[], guard := none }) (v := ?vv13) rfl (by kernel_rfl) (by kernel_rfl) (by kernel_rfl) (fun _ _ _ h => h) (Or.inl ⟨by rfl, ?hy13⟩) (by assumption) ?tk13
                    case hy13 => (intro w hSw; (try dsimp only at hSw); go_simp; (try with_reducible rfl))
                    try simp only [Act.put, List.setIfInBounds_toArray, List.set_cons_zero, List.set_cons_succ]
                    refine wpAnyH_take (i := 1) (oi := { dst := some 119, op := Go.Op.nilCheck (Go.Operand.tmp 118), type := 0, pos := _, after := #[{ on := 0, ground := Go.Ground.data }], guard := none }) (v := ?vv14) rfl (by kernel_rfl) (by kernel_rfl) (by kernel_rfl) (fun _ _ _ h => h) (Or.inl ⟨by rfl, ?hy14⟩) (by assumption) ?tk14
                    case hy14 => (intro w hSw; (try dsimp only at hSw); go_simp; (try with_reducible rfl))
                    try simp only [Act.put, List.setIfInBounds_toArray, List.set_cons_zero, List.set_cons_succ]
                    refine wpAnyH_take (i := 2) (oi := { dst := some 120, op := Go.Op.fieldAddr 91 (Go.Operand.tmp 119) 0, type := 0, pos := _, after := #[{ on := 1, ground := Go.Ground.data }], guard := none }) (v := ?vv15) rfl (by kernel_rfl) (by kernel_rfl) (by kernel_rfl) (fun _ _ _ h => h) (Or.inl ⟨by rfl, ?hy15⟩) (by assumption) ?tk15
                    case hy15 => (intro w hSw; (try dsimp only at hSw); go_simp; (try with_reducible rfl))
                    try simp only [Act.put, List.setIfInBounds_toArray, List.set_cons_zero, List.set_cons_succ]
                    refine wpAnyH_take (i := 3) (oi := { dst := some 121, op := Go.Op.load 88 (Go.Operand.tmp 120), type := 88, pos := _, after := #[{ on := 2, ground := Go.Ground.data }], guard := none }) (v := ?vv16) rfl (by kernel_rfl) (by kernel_rfl) (by kernel_rfl) (fun _ _ _ h => h) (Or.inl ⟨by rfl, ?hy16⟩) (by assumption) ?tk16
                    case hy16 => (intro w hSw; (try dsimp only at hSw); go_simp; (try with_reducible rfl))
                    try simp only [Act.put, List.setIfInBounds_toArray, List.set_cons_zero, List.set_cons_succ]
                    refine wpAnyH_take (i := 4) (oi := { dst := some 122, op := Go.Op.fieldAddr 86 (Go.Operand.tmp 12) 0, type := 0, pos := _, after := #[], guard := none }) (v := ?vv17) rfl (by kernel_rfl) (by kernel_rfl) (by kernel_rfl) (fun _ _ _ h => h) (Or.inl ⟨by rfl, ?hy17⟩) (by assumption) ?tk17
                    case hy17 => (intro w hSw; (try dsimp only at hSw); go_simp; (try with_reducible rfl))
                    try simp only [Act.put, List.setIfInBounds_toArray, List.set_cons_zero, List.set_cons_succ]
                    refine wpAnyH_take (i := 5) (oi := { dst := some 123, op := Go.Op.fieldAddr 84 (Go.Operand.tmp 122) 0, type := 0, pos := _, after := #[{ on := 4, ground := Go.Ground.data }], guard := none }) (v := ?vv18) rfl (by kernel_rfl) (by kernel_rfl) (by kernel_rfl) (fun _ _ _ h => h) (Or.inl ⟨by rfl, ?hy18⟩) (by assumption) ?tk18
                    case hy18 => (intro w hSw; (try dsimp only at hSw); go_simp; (try with_reducible rfl))
                    try simp only [Act.put, List.setIfInBounds_toArray, List.set_cons_zero, List.set_cons_succ]
                    refine wpAnyH_take (i := 6) (oi := { dst := some 124, op := Go.Op.load 36 (Go.Operand.tmp 123), type := 36, pos := _, after := #[{ on := 5, ground := Go.Ground.data }], guard := none }) (v := ?vv19) rfl (by kernel_rfl) (by kernel_rfl) (by kernel_rfl) (fun _ _ _ h => h) (Or.inl ⟨by rfl, ?hy19⟩) (by assumption) ?tk19
                    case hy19 => (intro w hSw; (try dsimp only at hSw); go_simp; (try with_reducible rfl))
                    try simp only [Act.put, List.setIfInBounds_toArray, List.set_cons_zero, List.set_cons_succ]
                    refine wpAnyH_ready (rs := [7]) (by kernel_rfl) (by simp) ?_
                    refine AllReadyH.cons (o := { dst := none, op := Go.Op.call { callee := Go.Callee.builtin Go.Builtin.delete, args := #[Go.Operand.tmp 121, Go.Operand.tmp 124], argTypes := #[88, 36] }, type := 0, pos := _, after := #[{ on := 3, ground := Go.Ground.data }, { on := 6, ground := Go.Ground.data }], guard := none }) rfl (fun K' hK' => ?_) AllReadyH.nil
                    go_simp
                    clear hHeld
                    refine hK'.out _ _ ⟨k0, k4⟩ (fun hHeld => ?_)
                    clear hK' K'
                    try simp only [Act.put, List.setIfInBounds_toArray, List.set_cons_zero, List.set_cons_succ]
                    refine wpAnyH_done (by kernel_rfl) ?_ _
                    go_wp2
                    go_meet
                    case rel =>
                      have hk := fun {k : Nat} (q : k ≠ pb) => turned_block HM.out.2 q
                      have hne := H.bo.ne
                      have M2 : MutM pb cb wc w3 := (MutM.refl pb cb wc).drew.trans (MutM.turned HM.out.2 (.inl rfl))
                      rw [take_snocF HE.out, ← drops_snoc]
                      refine ⟨H.note Q M2 ⟨k0, (World.cell?_of_block (a := ⟨bk, 1, none⟩) (hk hne.1)).trans H.bo.c1, HM.out.1, H.bo.cm.block (w' := w3) (hk (fun e => hne.2.2 e.symm)), hne⟩, ?_, ?_⟩
                      · exact (World.cell?_of_block (a := ⟨b8, 14, none⟩) (@hk b8 (by have := HPB.out; omega))).trans c14
                      · exact F.keep M2.size (fun q h1 h2 => @hk q (by have := HPB.out; omega))
                  case rest =>
                    obtain ⟨H, c14, F⟩ := hcut
                    go_wp2
                    go_roundg (l.length - (j + 1))
                    case measure => omega
                    case rel => exact ⟨j + 1, by omega, by go_num, H, c14, F⟩
                · have e : l.take j = l := List.take_of_length_le (by omega)
                  rw [e, drops_all A] at H
                  go_wp2
                  go_meet
                  case rel => exact H
            case rest =>
            clear H c14 F
            have H := hcut
            clear hcut
            obtain ⟨D, hown, hD⟩ := H.bo.pm
            have c0 := H.bo.c0
            obtain ⟨l1, l2, l3⟩ := H.bo.lt
            have hB := H.m.lt
            have hM := H.m.mlt
            have hs := H.s
            have HALL : Hid (∀ (x : Int) (c : Int × TmV) (kl : Lit) (y : DataW Unit × List MemPlace), keyOf Tryz.prog 36 (.int .u64 x) = some kl → Maps.has D kl = true → R4 (mkTm c) = some y → (∀ zd, D.atKey kl zd = y.1) → (til : Int) < c.2.dl) := hideIt (fun x c kl y h1 h2 h3 h4 => map_late (c := c) hown hD HLATE.out h1 h2 h3 h4)
            clear hD
            go_upto_block 4 with (first | (at_range; refine wpList_range_own _ rfl _ 88 rfl 36 84 mapLaw Tryz.underlying88 R4 pb (4 * i + 1) D rfl hown ?_; intro w0 hrg0 hg0 hs0) | go_in)
            try go_frame
            have H0 := H.rng Q hg0
            go_cut [] (fun wd => LT w.heap.size w wd B mb til (4 * i + 4) ν' τ' bk pb cb (4 * i + 1) τ'.tm χ')
            case first =>
              generalize hr : wc.heap.size = r at *
              go_wp2_with fail
              go_loopw [] (fun wr => ∃ (left : Lit → Bool) (cnt : Nat), wr.ranges Tryz.prog 36 R4 pb r (4 * i + 1) D left cnt ∧ Hid (∀ kl, left kl = true → Maps.has D kl = true) ∧ LT w.heap.size w wr B mb til (4 * i + 4) ν' τ' bk pb cb (4 * i + 1) τ'.tm χ') (fun wr => wr.rangeLeft pb r)
              case atStart => exact ⟨_, _, hrg0, hideIt (fun kl h => h), H0⟩
              case round =>
                obtain ⟨left, cnt, hrg, HL, HR⟩ := hrel
                go_wp2_with (first
                  | (at_next; refine wpList_next_ranges _ rfl _ rfl 36 mapLaw R4 (Value.int .u64) mkTm invK36 invV84 pb r (4 * i + 1) D left cnt rfl hrg ?_ ?_)
                  | go_in)
                · intro _ _
                  go_wp2
                  go_meet
                  case rel => exact HR
                · intro x ca cu kl ya yb w1 cnt1 hkx hlx hvy hat hrg1 hlt hg1 hs1 hen
                  have hlate := HALL.out x (ca, cu) kl (ya, yb) hkx (HL.out kl hlx) hvy hat
                  have HR1 := HR.grow Q hg1 (by omega)
                  have HG := hideIt (And.intro hat (And.intro hg1 (And.intro hvy hkx)))
                  have hq1 : ¬ (cu.dl ≤ (til : Int)) := by have := hlate; simp only at this; omega
                  have hq2 : ¬ ((til : Int) ≥ cu.dl) := by omega
                  clear hat hg1 hvy hkx hlate
                  simp only [mkTm] at hen
                  go_wp2
                  go_roundw
                  case rel => exact ⟨_, cnt1, hrg1.alloc _, hideIt (fun q h => HL.out q (by simp at h; exact h.1)), HR1.keep (one_alloc _ _)⟩
                  case measure => rw [(hrg1.alloc _).left_eq, hrg.left_eq]; exact hlt
            case rest =>
            have H := hcut
            clear hcut
            obtain ⟨ks, hnd, hks, hkr, s, hWh0, hlive⟩ := H.m.pend
            have hWh : WheelAt (World.drew wc) B s := hWh0.same rfl
            obtain ⟨lv, HLV⟩ : ∃ lv : Int, Hid ((ks.length : Int) = lv) := ⟨_, hideIt rfl⟩
            rw [HLV.out] at hlive
            have HLN : (Builtin.len_ #[88] 3 #[.map (some pb)]).run Tryz.prog (World.drew wc) = .ok (.int .i64 lv) (World.drew wc) := by
              have := H.bo.drew.pm.size 3 hnd hks hkr
              rw [HLV.out] at this
              exact this
            have c0 : (World.drew wc).cell? ⟨bk, 0, none⟩ = some (.map (some pb)) := H.bo.c0
            clear hWh0 hks hkr hnd
            go_wp2_with fail
            refine wp_region_held_drew (S := (fun w' => w'.cell? ⟨bk, 0, none⟩ = some (.map (some pb)) ∧ (Builtin.len_ #[88] 3 #[.map (some pb)]).run Tryz.prog w' = .ok (.int .i64 lv) w')) (by kernel_rfl) ⟨c0, HLN⟩ (fun hHeld => ?_)
            refine wpAnyH_take (i := 0) (oi := { dst := some 139, op := Go.Op.move (Go.Operand.tmp 3), type := 24, pos := _, after := #[], guard := none }) (v := ?vv20) rfl (by kernel_rfl) (by kernel_rfl) (by kernel_rfl) (fun _ _ _ h => h) (Or.inl ⟨by rfl, ?hy20⟩) (by assumption) ?tk20
            case hy20 => (intro w hSw; (try dsimp only at hSw); go_simp; (try with_reducible rfl))
            try simp only [Act.put, List.setIfInBounds_toArray, List.set_cons_zero, List.set_cons_succ]
            refine wpAnyH_take (i := 2) (oi := { dst := some 141, op := Go.Op.move (Go.Operand.tmp 4), type := 78, pos := _, after := #[], guard := none }) (v := ?vv21) rfl (by kernel_rfl) (by kernel_rfl) (by kernel_rfl) (fun _ _ _ h => h) (Or.inl ⟨by rfl, ?hy21⟩) (by assumption) ?tk21
            case hy21 => (intro w hSw; (try dsimp only at hSw); go_simp; (try with_reducible rfl))
            try simp only [Act.put, List.setIfInBounds_toArray, List.set_cons_zero, List.set_cons_succ]
            refine wpAnyH_take (i := 3) (oi := { dst := some 142, op := Go.Op.nilCheck (Go.Operand.tmp 141), type := 0, pos := _, after := #[{ on := 2, ground := Go.Ground.data }], guard := none }) (v := ?vv22) rfl (by kernel_rfl) (by kernel_rfl) (by kernel_rfl) (fun _ _ _ h => h) (Or.inl ⟨by rfl, ?hy22⟩) (by assumption) ?tk22
            case hy22 => (intro w hSw; (try dsimp only at hSw); go_simp; (try with_reducible rfl))
            try simp only [Act.put, List.setIfInBounds_toArray, List.set_cons_zero, List.set_cons_succ]
            refine wpAnyH_take (i := 4) (oi := { dst := some 143, op := Go.Op.fieldAddr 91 (Go.Operand.tmp 142) 0, type := 0, pos := _, after := #[{ on := 3, ground := Go.Ground.data }], guard := none }) (v := ?vv23) rfl (by kernel_rfl) (by kernel_rfl) (by kernel_rfl) (fun _ _ _ h => h) (Or.inl ⟨by rfl, ?hy23⟩) (by assumption) ?tk23
            case hy23 => (intro w hSw; (try dsimp only at hSw); go_simp; (try with_reducible rfl))
            try simp only [Act.put, List.setIfInBounds_toArray, List.set_cons_zero, List.set_cons_succ]
            refine wpAnyH_take (i := 5) (oi := { dst := some 144, op := Go.Op.load 88 (Go.Operand.tmp 143), type := 88, pos := _, after := #[{ on := 4, ground := Go.Ground.data }], guard := none }) (v := ?vv24) rfl (by kernel_rfl) (by kernel_rfl) (by kernel_rfl) (fun _ _ _ h => h) (Or.inl ⟨by rfl, ?hy24⟩) (by assumption) ?tk24
            case hy24 => (intro w hSw; (try dsimp only at hSw); go_simp; (try with_reducible rfl))
            try simp only [Act.put, List.setIfInBounds_toArray, List.set_cons_zero, List.set_cons_succ]
            refine wpAnyH_ready (rs := [1]) (by kernel_rfl) (by simp) ?_
            refine AllReadyH.cons (o := { dst := some 140, op := Go.Op.call { callee := Go.Callee.value (Go.Operand.func 40), args := #[Go.Operand.tmp 139], argTypes := #[24] }, type := 3, pos := _, after := #[{ on := 0, ground := Go.Ground.data }], guard := none }) rfl (fun K' hK' => ?_) AllReadyH.nil
            go_simp
            go_at_call 40
            refine (pending_any hWh).mono ?_
            rintro e wq ⟨rfl, rfl⟩
            rw [hlive]
            clear hHeld
            refine hK'.out _ _ ⟨c0, HLN⟩ (fun hHeld => ?_)
            clear hK' K'
            try simp only [Act.put, List.setIfInBounds_toArray, List.set_cons_zero, List.set_cons_succ]
            refine wpAnyH_take (i := 6) (oi := { dst := some 145, op := Go.Op.call { callee := Go.Callee.builtin Go.Builtin.len, args := #[Go.Operand.tmp 144], argTypes := #[88] }, type := 3, pos := _, after := #[{ on := 5, ground := Go.Ground.data }, { on := 1, ground := Go.Ground.chain }], guard := none }) (v := ?vv25) rfl (by kernel_rfl) (by kernel_rfl) (by kernel_rfl) (fun _ _ _ h => h) (Or.inl ⟨by rfl, ?hy25⟩) (by assumption) ?tk25
            case hy25 => (intro w hSw; (try dsimp only at hSw); go_simp; (try with_reducible rfl))
            try simp only [Act.put, List.setIfInBounds_toArray, List.set_cons_zero, List.set_cons_succ]
            refine wpAnyH_take (i := 7) (oi := { dst := some 146, op := Go.Op.binOp Go.BinOp.neq 3 (Go.Operand.tmp 140) (Go.Operand.tmp 145) 3, type := 4, pos := _, after := #[{ on := 1, ground := Go.Ground.data }, { on := 6, ground := Go.Ground.data }], guard := none }) (v := ?vv26) rfl (by kernel_rfl) (by kernel_rfl) (by kernel_rfl) (fun _ _ _ h => h) (Or.inl ⟨by rfl, ?hy26⟩) (by assumption) ?tk26
            case hy26 => (intro w hSw; (try dsimp only at hSw); go_simp; (try with_reducible rfl))
            try simp only [Act.put, List.setIfInBounds_toArray, List.set_cons_zero, List.set_cons_succ]
            refine wpAnyH_done (by kernel_rfl) ?_ _
            go_wp2
            go_meet
            case rel => exact ⟨til, ν', τ', χ', (H.drewN 1).mono (by omega) (by omega)⟩
        case rest =>
          obtain ⟨t', ν', τ', χ', H'⟩ := hcut
          go_wp2
          go_roundg (n - (i + 1))
          case measure => omega
          case rel => exact ⟨i + 1, t', ν', τ', χ', by omega, by go_num, H'⟩
      · have e : i = n := by omega
        subst e
        go_wp2
        go_ret
        exact ⟨rfl, H.b⟩
  · rw [decide_eq_false hb] at hsm
    go_enter Tryz.func6, Tryz.ntmps6
    go_wp2_with fail
    refine hsm.mono ?_
    rintro e w ⟨rfl, rfl⟩
    go_wp2
    go_ret
    exact ⟨rfl, Below.refl _ _⟩
end Go.Proofs.Qxb6500877aGreatDoor
