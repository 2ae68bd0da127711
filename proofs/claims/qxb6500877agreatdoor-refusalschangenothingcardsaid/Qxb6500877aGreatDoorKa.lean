import Derived.Deep.CutBlock
import Derived.Test.Qxb6500877aGreatDoorQn
set_option linter.unusedVariables false
set_option linter.unusedSimpArgs false
namespace Go.Proofs.Qxb6500877aGreatDoor
open Go.RowKit

/-- The law at work: the machine, and its snapshot laid down. -/
structure LR (n0 : Nat) (w0 w : World) (B mb t k : Nat) (ν : Net) (τ : TSt) (σ : Sg) (b4 base : Nat) (S : Snap) : Prop where
  m : Mach w B mb t k ν τ σ
  st : StAt w b4 base S
  so : SnapOf t ν τ σ S
  sm : SnapSm S
  b : Below n0 w0 w
  s : n0 ≤ w.heap.size
  h0 : 2 < n0 ∧ n0 ≤ B ∧ n0 ≤ mb ∧ n0 ≤ b4
  h1 : B < base ∧ mb < base
  h2 : b4 ≠ B ∧ b4 ≠ mb
theorem LR.keep {n0 : Nat} {w0 w w' : World} {B mb t k : Nat} {ν : Net} {τ : TSt} {σ : Sg} {b4 base : Nat} {S : Snap} (h : LR n0 w0 w B mb t k ν τ σ b4 base S) (hb : Below w.heap.size w w') : LR n0 w0 w' B mb t k ν τ σ b4 base S :=
  ⟨h.m.below hb, h.st.below hb, h.so, h.sm, below_to h.b hb h.s, Nat.le_trans h.s hb.size, h.h0, h.h1, h.h2⟩
theorem lr_turn {n0 : Nat} {w0 w w1 : World} {B mb t k t' k' : Nat} {ν ν' : Net} {τ τ' : TSt} {σ σ' : Sg} {b4 base b8 base8 : Nat} {S S8 S4 : Snap} {cs : Array Value} {ba : Nat} (H : LR n0 w0 w B mb t k ν τ σ b4 base S) (M : Mach w1 B mb t' k' ν' τ' σ') (bl : Below n0 w0 w1) (st8 : StAt w1 b8 base8 S8) (hr : w1.heap[b8]? = some (.cells cs 61)) (hz : cs.size = 123) (st1 : StAt w1 b4 ba S4) (h48 : b4 < base8) (hB8 : B < base8 ∧ mb < base8) (so : SnapOf t' ν' τ' σ' S8 ∧ SnapSm S8) : LR n0 w0 (w1.setRow b4 cs) B mb t' k' ν' τ' σ' b4 base8 S8 := by
  have h0 := H.h0
  have h2 := H.h2
  refine ⟨M.blocks (fun q hq => setRow_far (by omega)), stat_copy st8 hr hz st1 h48, so.1, so.2, ⟨bl.os, bl.tape, bl.output, by rw [setRow_size]; exact bl.size, fun q hq => (setRow_far (by omega)).trans (bl.block q hq)⟩, by rw [setRow_size]; have := st1.lt; omega, h0, hB8, h2⟩
set_option maxRecDepth 20000 in
set_option maxHeartbeats 16000000 in
theorem law11 {p : Option Addr} {n c : Nat} {L : List OpS} {w : World} (h : OpsIn w p L) (hn : L.length = n) (hok : ∀ o ∈ L, o.ok) (hnc : n ≤ c) (V : Vac w) (TB : TabAt w) (h2 : 2 < w.heap.size) :
    Calls Tryz.prog 11 #[.slice p n c] w fun e w' => e = .returned (.bool true) ∧ Below w.heap.size w w' := by
  have HST : Hid (∀ {w : World} {B mb t k : Nat} {ν : Net} {τ : TSt} {σ : Sg}, Mach w B mb t k ν τ σ → k < 800000 → ∀ (o : OpS), o.ok → Calls Tryz.prog 19 #[.pointer (some ⟨B, 0, none⟩), opV o] w fun e w' => StepZ w w' B mb t k ν τ σ e) := hideIt (fun M hk o ho => step_z M hk o ho)
  have hsm := small_any (p := p) (n := n) (c := c) w
  by_cases hb : n ≤ 65536
  · rw [decide_eq_true hb] at hsm
    go_enter Tryz.func11, Tryz.ntmps11
    go_wp2_with fail
    refine hsm.mono ?_
    rintro e w ⟨rfl, rfl⟩
    go_wp2_with fail
    refine (new_any V TB h2).mono ?_
    rintro e w1 ⟨B, mb, σ0, rfl, M1, hwB, hwm, hb1⟩
    have hsn := snap_full M1
    have hlB := M1.lt
    have hlm := M1.mlt
    have hz := zv61
    go_upto_region 4 with fail
    go_cut [4] (fun a4 wd => ∃ (b4 base : Nat) (S : Snap), a4 = .pointer (some ⟨b4, 0, none⟩) ∧ LR w.heap.size w wd B mb 0 0 net0 τ0 σ0 b4 base S)
    case first =>
      go_wp2_with fail
      refine hsn.mono ?_
      rintro e w2 ⟨cs, S8, rfl, hcz, hso, hsm, hsc, hb2⟩
      have hon := one_of hsc
      have hrun := store61_new w2 hcz hon
      have HX := hideIt (And.intro hso (And.intro hsm (And.intro hsc (And.intro hb2 hcz))))
      clear hso hsm hsc hb2 hsn hcz hon
      go_wp2_with (first | (refine wpList_store_row rfl (.tmp 4) (.tmp 14) 61 rfl ⟨w2.heap.size, 0, none⟩ (.agg cs) rfl rfl hrun ?_) | go_in)
      go_meet
      case rel =>
        obtain ⟨hso, hsm, hsc, hb2, hcz⟩ := HX.out
        have b1 := one_alloc w2 (.cells cs 61)
        have bb := hb2.trans (b1.mono hb2.size)
        have s2 := hb2.size
        have s1 := hb1.size
        exact ⟨w2.heap.size, w1.heap.size, S8, rfl, ⟨M1.below bb, stat_new hcz hsc, hso, hsm, below_to hb1 bb hb1.size, by have := bb.size; omega, ⟨h2, hwB, hwm, by omega⟩, ⟨hlB, hlm⟩, by omega⟩⟩
    case rest =>
    clear hsn hlB hlm hz M1 hb1 hwB hwm
    obtain ⟨b4, base0, S0, rfl, H0⟩ := hcut
    go_wp2_with fail
    go_loopg [17] n (fun gg v wr => ∃ (i t : Nat) (ν : Net) (τ : TSt) (σ : Sg) (base : Nat) (S : Snap), i + gg = n ∧ v = .int .i64 (i : Int) ∧ LR w.heap.size w wr B mb t (4 * i) ν τ σ b4 base S)
    case atStart => exact ⟨0, 0, net0, τ0, σ0, base0, S0, by omega, rfl, H0⟩
    case round =>
      clear H0
      obtain ⟨i, t, ν, τ, σ, base, S, hig, rfl, H⟩ := hrel
      by_cases hi : i < n
      · have i0 : (0 : Int) ≤ i := by omega
        have i1 : (i : Int) < (n : Int) := by omega
        have hi' : i < L.length := by omega
        obtain ⟨b, off, rfl, hcs⟩ : ∃ b off, p = some ⟨b, off, none⟩ ∧ ∀ j (h : j < L.length), OpCs w b (off + j * 6) L[j] := by
          rcases h with h | h
          · rw [h] at hi'; simp at hi'
          · exact h
        have hC := hcs i hi'
        have ho := hok _ (List.getElem_mem hi')
        generalize L[i] = o at hC ho
        obtain ⟨c0, c1, c2, c3, c4, c5⟩ := hC
        have d0 := cell_later H.b c0
        have d1 := cell_later H.b c1
        have d2 := cell_later H.b c2
        have d3 := cell_later H.b c3
        have d4 := cell_later H.b c4
        have d5 := cell_later H.b c5
        clear c0 c1 c2 c3 c4 c5 hcs
        go_upto_block 1 with fail
        go_cut [] (fun wc => ∃ (t' : Nat) (ν' : Net) (τ' : TSt) (σ' : Sg) (base' : Nat) (S' : Snap), LR w.heap.size w wc B mb t' (4 * i + 4) ν' τ' σ' b4 base' S')
        case first =>
          go_upto_region 7 with fail
          go_cut [6] (fun a6 wc => ∃ p6 : Nat, a6 = .pointer (some ⟨p6, 0, none⟩) ∧ OpAt wc p6 o ∧ LR w.heap.size w wc B mb t (4 * i) ν τ σ b4 base S)
          case first =>
            go_wp2
            go_meet
            case rel => exact ⟨wr.heap.size, rfl, op_new wr o 32, H.keep (one_alloc _ _)⟩
          case rest =>
          clear d0 d1 d2 d3 d4 d5 H
          obtain ⟨p6, rfl, OP, H⟩ := hcut
          have hst := HST.out H.m (by omega) o ho
          unfold opV at hst
          have OP' := OP
          obtain ⟨g0, g1, g2, g3, g4, g5⟩ := OP
          have hp6' := OP'.lt
          have hz := zv61
          go_upto_region 8 with fail
          go_cut [7] (fun a7 wd => ∃ (b7 : Nat) (c co tk tm : Int) (hm : Bool) (mm : MsgV) (pp : Option Addr) (cap : Nat) (l : List FiredS) (t' : Nat) (ν' : Net) (τ' : TSt) (σ' : Sg), a7 = .pointer (some ⟨b7, 0, none⟩) ∧ RgAt wd b7 c co tk tm hm mm pp l.length cap ∧ Mach wd B mb t' (4 * i + 4) ν' τ' σ' ∧ StAt wd b4 base S ∧ Below w.heap.size w wd ∧ b4 < wd.heap.size ∧ Hid (c ≠ 0 → t' = t ∧ ν' = ν ∧ τ' = τ ∧ σ' = σ ∧ tk = -1 ∧ tm = 0 ∧ hm = false ∧ l = []))
          case first =>
            go_wp2_with fail
            refine hst.mono ?_
            rintro e w2 ⟨c, co, tk, tm, hm, mm, pp, nn, l, t', ν', τ', σ', rfl, hF, D, hZ⟩
            have HZ := hideIt hZ
            have st2 := H.st.done D H.h2 H.h1
            have b2 := below_done H.b D H.s H.h0.2.1 H.h0.2.2.1
            have HD := hideIt (And.intro D.m (And.intro st2 (And.intro b2 st2.lt)))
            clear hZ hF hst D H OP' g0 g1 g2 g3 g4 g5 st2 b2 hz
            unfold resV
            go_wp2
            go_meet
            case rel =>
              obtain ⟨d1, d2, d3, d4⟩ := HD.out
              have b1 := one_alloc w2 (.cells #[.int .i64 c, .int .i64 co, .int .i64 tk, .int .u64 tm, .bool hm, .int .i64 mm.mf, .int .i64 mm.mt, .int .u32 mm.md, .int .u64 mm.mq, .int .u64 mm.ma, .int .u64 mm.x0, .int .u64 mm.x1, .int .u64 mm.x2, .int .u64 mm.x3, .slice pp l.length nn] 43)
              exact ⟨w2.heap.size, c, co, tk, tm, hm, mm, pp, nn, l, t', ν', τ', σ', rfl, rg_new w2 c co tk tm hm mm pp l.length nn 43, d1.below b1, d2.below b1, below_to d3 b1 d3.size, by have := b1.size; omega, HZ⟩
          case rest =>
          have HH := hideIt H
          clear hst H OP' g0 g1 g2 g3 g4 g5 hp6'
          obtain ⟨b7, c, co, tk, tm, hm, mm, pp, cap, l, t', ν', τ', σ', rfl, RG, M1, st1, bl1, h41, HZ⟩ := hcut
          have hsn := snap_full M1
          have hlB := M1.lt
          have hlm := M1.mlt
          have hl7 := RG.lt
          go_upto_region 9 with fail
          go_cut [8] (fun a8 wd => ∃ (b8 base8 : Nat) (S8 : Snap) (cs : Array Value), a8 = .pointer (some ⟨b8, 0, none⟩) ∧ StAt wd b8 base8 S8 ∧ wd.heap[b8]? = some (.cells cs 61) ∧ cs.size = 123 ∧ RgAt wd b7 c co tk tm hm mm pp l.length cap ∧ Mach wd B mb t' (4 * i + 4) ν' τ' σ' ∧ StAt wd b4 base S ∧ Below w.heap.size w wd ∧ b4 < base8 ∧ (B < base8 ∧ mb < base8) ∧ b4 ≠ b8 ∧ Hid (SnapOf t' ν' τ' σ' S8 ∧ SnapSm S8))
          case first =>
            go_wp2_with fail
            refine hsn.mono ?_
            rintro e w2 ⟨cs, S8, rfl, hcz, hso, hsm, hsc, hb2⟩
            have hon := one_of hsc
            have hrun := store61_new w2 hcz hon
            have HX := hideIt (And.intro hso (And.intro hsm (And.intro hsc (And.intro hb2 hcz))))
            have hw2 := hb2.size
            clear hso hsm hsc hb2 hsn hcz hon
            go_wp2_with (first | (refine wpList_store_row rfl (.tmp 8) (.tmp 25) 61 rfl ⟨w2.heap.size, 0, none⟩ (.agg cs) rfl rfl hrun ?_) | go_in)
            go_meet
            case rel =>
              obtain ⟨hso, hsm, hsc, hb2, hcz⟩ := HX.out
              have b1 := one_alloc w2 (.cells cs 61)
              have bb := hb2.trans (b1.mono hb2.size)
              exact ⟨w2.heap.size, wc.heap.size, S8, cs, rfl, stat_new hcz hsc, heap_alloc_last w2 _, hcz, RG.blk (bb.block b7 hl7), M1.below bb, st1.below bb, below_to bl1 bb bl1.size, h41, ⟨hlB, hlm⟩, by omega, hideIt ⟨hso, hsm⟩⟩
          case rest =>
          clear hsn hlB hlm hl7 hz RG M1 st1 bl1 h41
          obtain ⟨b8, base8, S8, cs, rfl, st8, hr8, hcz, RG, M1, st1, bl1, h48, hB8, h4b, HSO⟩ := hcut
          have HEQ : Hid (c ≠ 0 → Calls Tryz.prog 24 #[.pointer (some ⟨b8, 0, none⟩), .pointer (some ⟨b4, 0, none⟩)] wc fun e w' => e = .returned (.bool true) ∧ Below wc.heap.size wc w') := hideIt (fun hc => by
            obtain ⟨h1, h2, h3, h4, _⟩ := HZ.out hc
            have so := HSO.out.1
            rw [h1, h2, h3, h4] at so
            exact stEqual_any st8 st1 (so.eq HH.out.so) HSO.out.2)
          have hl8 := st8.lt
          have hl4 := st1.lt
          have hl7 := RG.lt
          have RG' := RG
          obtain ⟨r0, r1, r2, r3, r4, r5, r6, r7, r8, r9, r10, r11, r12, r13, r14⟩ := RG
          by_cases hc : c = 0
          · subst hc
            clear HEQ HZ
            have hone := stat_one st8 hr8 hcz
            obtain ⟨c2, hr4, hz4⟩ := st1.row
            have hl61 := load61 hr8 hcz
            have hs61 := store61 hr4 hz4 hcz hone
            go_upto_region 14 with fail
            go_wp2_with (first | (refine wpList_load_row rfl (.tmp 8) 61 rfl ⟨b8, 0, none⟩ (.agg cs) rfl hl61 ?_) | (refine wpList_store_row rfl (.tmp 4) (.tmp 56) 61 rfl ⟨b4, 0, none⟩ (.agg cs) rfl rfl hs61 ?_) | go_in)
            go_meet
            case rel => exact ⟨t', ν', τ', σ', base8, S8, lr_turn HH.out M1 bl1 st8 hr8 hcz st1 h48 hB8 HSO.out⟩
          · have hcb : (c != 0) = true := by simpa using hc
            obtain ⟨e1, e2, e3, e4, e5, e6, e7, e8⟩ := HZ.out hc
            have heq := HEQ.out hc
            subst e5
            subst e6
            subst e7
            subst e8
            simp only [List.length_nil] at r14
            clear HEQ HZ hc
            go_wp2_with fail
            refine heq.mono ?_
            rintro e w3 ⟨rfl, hb3⟩
            have M2 := M1.below hb3
            have st8' := st8.below hb3
            have st1' := st1.below hb3
            have bl2 := below_to bl1 hb3 bl1.size
            have hr8' := (hb3.block b8 hl8).trans hr8
            obtain ⟨r0, r1, r2, r3, r4, r5, r6, r7, r8, r9, r10, r11, r12, r13, r14⟩ := RG'.blk (hb3.block b7 hl7)
            simp only [List.length_nil] at r14
            have hone := stat_one st8' hr8' hcz
            obtain ⟨c2, hr4, hz4⟩ := st1'.row
            have hl61 := load61 hr8' hcz
            have hs61 := store61 hr4 hz4 hcz hone
            go_upto_region 14 with fail
            go_wp2_with (first | (refine wpList_load_row rfl (.tmp 8) 61 rfl ⟨b8, 0, none⟩ (.agg cs) rfl hl61 ?_) | (refine wpList_store_row rfl (.tmp 4) (.tmp 56) 61 rfl ⟨b4, 0, none⟩ (.agg cs) rfl rfl hs61 ?_) | go_in)
            go_meet
            case rel => exact ⟨t', ν', τ', σ', base8, S8, lr_turn HH.out M2 bl2 st8' hr8' hcz st1' h48 hB8 HSO.out⟩
        case rest =>
          obtain ⟨t', ν', τ', σ', base', S', H'⟩ := hcut
          go_wp2
          go_roundg (n - (i + 1))
          case measure => omega
          case rel => exact ⟨i + 1, t', ν', τ', σ', base', S', by omega, by go_num, H'⟩
      · have e : i = n := by omega
        subst e
        go_wp2
        go_ret
        exact ⟨rfl, H.b⟩
  · rw [decide_eq_false hb] at hsm
    go_enter Tryz.func11, Tryz.ntmps11
    go_wp2_with fail
    refine hsm.mono ?_
    rintro e w ⟨rfl, rfl⟩
    go_wp2
    go_ret
    exact ⟨rfl, Below.refl _ _⟩
end Go.Proofs.Qxb6500877aGreatDoor
