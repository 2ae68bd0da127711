import Derived.Deep.CutBlock
import Derived.OwnWalk
import Derived.Test.Qxb6500877aGreatDoorOe1
set_option linter.unusedVariables false
set_option linter.unusedSimpArgs false
namespace Go.Proofs.Qxb6500877aGreatDoor
open Go.RowKit

set_option maxRecDepth 20000 in
set_option maxHeartbeats 32000000 in
theorem law10 {p : Option Addr} {n c : Nat} {L : List OpS} {w : World} (h : OpsIn w p L) (hn : L.length = n) (hok : ∀ o ∈ L, o.ok) (hnc : n ≤ c) (V : Vac w) (TB : TabAt w) (h2 : 2 < w.heap.size) :
    Calls Tryz.prog 10 #[.slice p n c] w fun e w' => e = .returned (.bool true) ∧ Below w.heap.size w w' := by
  have HST : Hid (∀ {w : World} {B mb t k : Nat} {ν : Net} {τ : TSt} {σ : Sg}, Mach w B mb t k ν τ σ → k < 800000 → ∀ (o : OpS), o.ok → Calls Tryz.prog 19 #[.pointer (some ⟨B, 0, none⟩), opV o] w fun e w' => StepS o w w' B mb t k ν τ σ e) := hideIt (fun M hk o ho => step_s M hk o ho)
  have hsm := small_any (p := p) (n := n) (c := c) w
  by_cases hb : n ≤ 65536
  · rw [decide_eq_true hb] at hsm
    go_enter Tryz.func10, Tryz.ntmps10
    go_wp2_with fail
    refine hsm.mono ?_
    rintro e w ⟨rfl, rfl⟩
    go_wp2_with fail
    refine (new_any V TB h2).mono ?_
    rintro e w1 ⟨B, mb, σ0, rfl, M1, hwB, hwm, hb1⟩
    have hlB := M1.lt
    have hlm := M1.mlt
    go_upto_region 4 with fail
    go_cut [4] (fun a4 wd => ∃ b4 : Nat, a4 = .pointer (some ⟨b4, 0, none⟩) ∧ Mach wd B mb 0 0 net0 τ0 σ0 ∧ HeldAt wd b4 (fun _ => 0) ∧ Below w.heap.size w wd ∧ (B < b4 ∧ mb < b4))
    case first =>
      go_wp2
      go_meet
      case rel =>
        have b1 := one_alloc w1 (.cells #[.int .i64 0, .int .i64 0, .int .i64 0, .int .i64 0, .int .i64 0, .int .i64 0, .int .i64 0, .int .i64 0, .int .i64 0, .int .i64 0, .int .i64 0, .int .i64 0, .int .i64 0, .int .i64 0, .int .i64 0, .int .i64 0] 74)
        exact ⟨w1.heap.size, rfl, M1.below b1, held_zero w1, below_to hb1 b1 hb1.size, hlB, hlm⟩
    case rest =>
    clear hlB hlm M1 hb1
    obtain ⟨b4, rfl, M1, HH1, hb1, hB4⟩ := hcut
    have hsn := snap_full M1
    have hz := zv61
    have hl4 := HH1.lt
    go_upto_region 5 with fail
    go_cut [5] (fun a5 wd => ∃ (b5 base : Nat) (S : Snap), a5 = .pointer (some ⟨b5, 0, none⟩) ∧ LJ w wd B mb 0 0 net0 τ0 σ0 b4 b5 base S (fun _ => 0) 0)
    case first =>
      go_wp2_with fail
      refine hsn.mono ?_
      rintro e w2 ⟨cs, S8, rfl, hcz, hso, hsm, hsc, hb2⟩
      have hon := one_of hsc
      have hrun := store61_new w2 hcz hon
      have HX := hideIt (And.intro hso (And.intro hsm (And.intro hsc (And.intro hb2 hcz))))
      clear hso hsm hsc hb2 hsn hcz hon
      go_wp2_with (first | (refine wpList_store_row rfl (.tmp 5) (.tmp 23) 61 rfl ⟨w2.heap.size, 0, none⟩ (.agg cs) rfl rfl hrun ?_) | go_in)
      go_meet
      case rel =>
        obtain ⟨hso, hsm, hsc, hb2, hcz⟩ := HX.out
        have b1 := one_alloc w2 (.cells cs 61)
        have bb := hb2.trans (b1.mono hb2.size)
        have s2 := hb2.size
        obtain ⟨Q0, l0, I0, T0, eS⟩ := hso
        exact ⟨w2.heap.size, wc.heap.size, S8, rfl, ⟨M1.below bb, stat_new hcz hsc, ⟨Q0, l0, I0, T0, eS⟩, hsm, HH1.blk (bb.block b4 hl4), ⟨Q0, I0, fun c b => List.Pairwise.imp_of_mem (fun _ _ _ => Int.le_refl _) (I0.nod c b)⟩, fun _ _ => by show (0 : Int) ≤ ((0 : Nat) : Int); omega, below_to hb1 bb hb1.size, ⟨h2, hwB, hwm⟩, ⟨hB4.1, hB4.2, by omega, hl4⟩⟩⟩
    case rest =>
    clear hsn hz M1 hb1 HH1 hl4 hwB hwm hB4
    obtain ⟨b5, base0, S0, rfl, H0⟩ := hcut
    go_wp2_with fail
    go_loopg [26] n (fun gg v wr => ∃ (i t : Nat) (ν : Net) (τ : TSt) (σ : Sg) (base : Nat) (S : Snap) (η : Nat → Int), i + gg = n ∧ v = .int .i64 (i : Int) ∧ LJ w wr B mb t (4 * i) ν τ σ b4 b5 base S η i)
    case atStart => exact ⟨0, 0, net0, τ0, σ0, base0, S0, _, by omega, rfl, H0⟩
    case round =>
      clear H0
      obtain ⟨i, t, ν, τ, σ, base, S, η, hig, rfl, H⟩ := hrel
      by_cases hi : i < n
      · have i0 : (0 : Int) ≤ i := by omega
        have i1 : (i : Int) < (n : Int) := by omega
        have hi' : i < L.length := by omega
        obtain ⟨b, off, rfl, hcs⟩ : ∃ b off, p = some ⟨b, off, none⟩ ∧ ∀ j (h : j < L.length), OpCs w b (off + j * 6) L[j] := by
          rcases h with h | h
          · rw [h] at hi'; simp at hi'
          · exact h
        have hC := hcs i hi'
        have ho := hok _ (List.getElem_mem hi')
        generalize L[i] = o at hC ho
        obtain ⟨c0, c1, c2, c3, c4, c5⟩ := hC
        have d0 := cell_later H.b c0
        have d1 := cell_later H.b c1
        have d2 := cell_later H.b c2
        have d3 := cell_later H.b c3
        have d4 := cell_later H.b c4
        have d5 := cell_later H.b c5
        clear c0 c1 c2 c3 c4 c5 hcs
        go_upto_block 1 with fail
        go_cut [] (fun wc => ∃ (t' : Nat) (ν' : Net) (τ' : TSt) (σ' : Sg) (base' : Nat) (S' : Snap) (η' : Nat → Int), LJ w wc B mb t' (4 * i + 4) ν' τ' σ' b4 b5 base' S' η' (i + 1))
        case first =>
          go_upto_region 8 with fail
          go_cut [6, 7] (fun a6 a7 wd => a6 = .int .i64 (i : Int) ∧ ∃ p7 : Nat, a7 = .pointer (some ⟨p7, 0, none⟩) ∧ OpAt wd p7 o ∧ (B < p7 ∧ mb < p7) ∧ LJ w wd B mb t (4 * i) ν τ σ b4 b5 base S η i)
          case first =>
            have hq1 := H.m.lt
            have hq2 := H.m.mlt
            go_wp2
            go_meet
            case rel => exact ⟨rfl, wr.heap.size, rfl, op_new wr o 32, ⟨hq1, hq2⟩, H.keep (one_alloc _ _)⟩
          case rest =>
          clear d0 d1 d2 d3 d4 d5 H
          obtain ⟨rfl, p7, rfl, OP, hp7', H⟩ := hcut
          have hst := HST.out H.m (by omega) o ho
          unfold opV at hst
          have OP' := OP
          obtain ⟨g0, g1, g2, g3, g4, g5⟩ := OP
          have hp7 := OP'.lt
          have hz := zv61
          go_upto_region 9 with fail
          go_cut [8] (fun a8 wd => ∃ (b8 : Nat) (c co tk tm : Int) (hm : Bool) (mm : MsgV) (pp : Option Addr) (cap : Nat) (l : List FiredS) (t' : Nat) (ν' : Net) (τ' : TSt) (σ' : Sg), a8 = .pointer (some ⟨b8, 0, none⟩) ∧ RgAt wd b8 c co tk tm hm mm pp l.length cap ∧ OpAt wd p7 o ∧ Mach wd B mb t' (4 * i + 4) ν' τ' σ' ∧ StAt wd b5 base S ∧ HeldAt wd b4 η ∧ Below w.heap.size w wd ∧ b4 < b8 ∧ b5 < b8 ∧ Hid (SchE o σ c co tk σ'))
          case first =>
            have h0 := H.h0
            have h1 := H.h1
            have hH4 := H.hh.lt
            have hH5 := H.st.lt
            go_wp2_with fail
            refine hst.mono ?_
            rintro e w2 ⟨c, co, tk, tm, hm, mm, pp, nn, l, t', ν', τ', σ', rfl, D, hS⟩
            have HZ := hideIt hS
            have st2 := H.st.done D (by omega) (by omega)
            have b2 := below_done H.b D H.b.size h0.2.1 h0.2.2
            have HD := hideIt (And.intro D.m (And.intro st2 (And.intro b2 (And.intro (H.hh.blk (D.f.block b4 hH4 (by omega) (by omega))) (And.intro (OP'.blk (D.f.block p7 hp7 (by omega) (by omega))) D.f.size)))))
            clear hS hst D H OP' g0 g1 g2 g3 g4 g5 st2 b2 hz
            unfold resV
            go_wp2
            go_meet
            case rel =>
              obtain ⟨d1, d2, d3, d4, d5, d6⟩ := HD.out
              have b1 := one_alloc w2 (.cells #[.int .i64 c, .int .i64 co, .int .i64 tk, .int .u64 tm, .bool hm, .int .i64 mm.mf, .int .i64 mm.mt, .int .u32 mm.md, .int .u64 mm.mq, .int .u64 mm.ma, .int .u64 mm.x0, .int .u64 mm.x1, .int .u64 mm.x2, .int .u64 mm.x3, .slice pp l.length nn] 43)
              exact ⟨w2.heap.size, c, co, tk, tm, hm, mm, pp, nn, l, t', ν', τ', σ', rfl, rg_new w2 c co tk tm hm mm pp l.length nn 43, d5.blk (b1.block p7 d5.lt), d1.below b1, d2.below b1, d4.blk (b1.block b4 d4.lt), below_to d3 b1 d3.size, d4.lt, d2.lt, HZ⟩
          case rest =>
          have HH := hideIt H
          clear hst H OP' g0 g1 g2 g3 g4 g5
          obtain ⟨b8, c, co, tk, tm, hm, mm, pp, cap, l, t', ν', τ', σ', rfl, RG, OP, M1, st1, hh1, bl1, h48, h58, HSC⟩ := hcut
          have hsn := snap_full M1
          have hlB := M1.lt
          have hlm := M1.mlt
          have hl8 := RG.lt
          have hl7 := OP.lt
          have hl4 := hh1.lt
          have hl5 := st1.lt
          go_upto_region 10 with fail
          go_cut [9] (fun a9 wd => ∃ (b9 base9 : Nat) (S9 : Snap) (cs : Array Value), a9 = .pointer (some ⟨b9, 0, none⟩) ∧ LK w wd B mb t' (4 * i + 4) ν' τ' σ' b4 b5 base b9 base9 S S9 cs η ∧ cs.size = 123 ∧ RgAt wd b8 c co tk tm hm mm pp l.length cap ∧ OpAt wd p7 o ∧ (b4 < b9 ∧ b4 < base9) ∧ b5 < base9 ∧ Hid (SnapOf t' ν' τ' σ' S9 ∧ SnapSm S9))
          case first =>
            go_wp2_with fail
            refine hsn.mono ?_
            rintro e w2 ⟨cs, S8, rfl, hcz, hso, hsm, hsc, hb2⟩
            have hon := one_of hsc
            have hrun := store61_new w2 hcz hon
            have HX := hideIt (And.intro hso (And.intro hsm (And.intro hsc (And.intro hb2 hcz))))
            have hw2 := hb2.size
            clear hso hsm hsc hb2 hsn hcz hon
            go_wp2_with (first | (refine wpList_store_row rfl (.tmp 9) (.tmp 35) 61 rfl ⟨w2.heap.size, 0, none⟩ (.agg cs) rfl rfl hrun ?_) | go_in)
            go_meet
            case rel =>
              obtain ⟨hso, hsm, hsc, hb2, hcz⟩ := HX.out
              have b1 := one_alloc w2 (.cells cs 61)
              have bb := hb2.trans (b1.mono hb2.size)
              exact ⟨w2.heap.size, wc.heap.size, S8, cs, rfl, ⟨M1.below bb, st1.below bb, stat_new hcz hsc, heap_alloc_last w2 _, hh1.blk (bb.block b4 hl4), below_to bl1 bb bl1.size⟩, hcz, RG.blk (bb.block b8 hl8), OP.blk (bb.block p7 hl7), ⟨by omega, hl4⟩, hl5, hideIt ⟨hso, hsm⟩⟩
          case rest =>
          clear hsn hlB hlm hl8 hl7 hl4 hl5 hz RG OP M1 st1 hh1 bl1
          obtain ⟨b9, base9, S9, cs, rfl, LK0, hcz, RG, OP, h94, h59, HSO⟩ := hcut
          have g0 := OP.c0
          have r0 := RG.c0
          go_upto_region 11 with fail
          go_cut [43] (fun a43 wd => (a43 = .bool (decide (o.kd = 0 ∧ c = 0)) ∧ wc = wd))
          case first =>
            clear HST HH HSC HSO LK0
            by_cases hk0 : o.kd = 0
            · rw [hk0] at g0
              by_cases hc0 : c = 0
              · subst hc0
                go_wp2
                go_meet
                case rel => exact ⟨by simp [hk0], rfl⟩
              · have e0 : (c == 0) = false := by simpa using hc0
                go_wp2
                go_meet
                case rel => exact ⟨by simp [hk0, hc0], rfl⟩
            · have e0 : (((o.kd : Nat) : Int) == 0) = false := by simp; omega
              go_wp2
              go_meet
              case rel => exact ⟨by simp [hk0], rfl⟩
          case rest =>
          obtain ⟨rfl, e⟩ := hcut
          subst e
          clear g0 r0
          go_upto_if 43 with fail
          go_cut [] (fun wd => ∃ η1 : Nat → Int, LK w wd B mb t' (4 * i + 4) ν' τ' σ' b4 b5 base b9 base9 S S9 cs η1 ∧ Hid ((∃ Q', SInv σ'.s Q' 16 ∧ WOrd Q' (joinF σ.s σ'.s i η1)) ∧ ∀ y, y < 16 → η1 y ≤ i + 1))
          case first =>
            by_cases hpk : o.kd = 0 ∧ c = 0
            · rw [decide_eq_true hpk]
              obtain ⟨hk0, hc0⟩ := hpk
              subst hc0
              have hex : ∃ x : Nat, x < 4 ∧ co = x ∧ (σ.s.cur x ≠ -1 ∨ 0 < σ.s.qn x) ∧ tk = (pickX σ.s x : Nat) ∧ σ'.s = pickS σ.s x := by
                rcases HSC.out with ⟨_, _, h⟩ | ⟨hno, _⟩
                · exact h
                · rcases hno with h | h
                  · exact absurd hk0 h
                  · exact absurd rfl h
              obtain ⟨x, hx4, hco, hr, htk, hs⟩ := hex
              subst hco
              obtain ⟨Q, I, WO⟩ := HH.out.od
              obtain ⟨Q', J', W', hin, hall⟩ := pick_law (i := i) I hx4 hr WO HH.out.le
              obtain ⟨sq, sc, stk⟩ := snap_sched HH.out.so I
              generalize hX : pickX σ.s x = X at *
              subst htk
              have hX16 := (hall X hin).1
              have HJ : Hid ((∃ Q', SInv σ'.s Q' 16 ∧ WOrd Q' (joinF σ.s σ'.s i (wasF σ.s x i η))) ∧ ∀ y, y < 16 → wasF σ.s x i η y ≤ i + 1) := hideIt ⟨⟨Q', by rw [hs]; exact J', by rw [hs]; exact W'⟩, wasF_le HH.out.le⟩
              have HALL : Hid (∀ u ∈ rivL σ.s Q x, u < 16 ∧ (u ≠ X → (S.tk X).2.2 ≤ (S.tk u).2.2 ∧ ((S.tk u).2.2 = (S.tk X).2.2 → wasF σ.s x i η X ≤ wasF σ.s x i η u))) := hideIt (fun u hu => by
                obtain ⟨h1, h2⟩ := hall u hu
                have n0 := riv_st I hu hx4
                have nX := riv_st I hin hx4
                rw [stk u, stk X]
                show u < 16 ∧ (u ≠ X → IntKind.i64.wrap (σ.s.tk X).band ≤ IntKind.i64.wrap (σ.s.tk u).band ∧ (IntKind.i64.wrap (σ.s.tk u).band = IntKind.i64.wrap (σ.s.tk X).band → wasF σ.s x i η X ≤ wasF σ.s x i η u))
                rw [band_wrap I h1 n0, band_wrap I hX16 nX]
                exact ⟨h1, h2⟩)
              have hcx := sc x
              have HSQ := hideIt (sq x hx4)
              have hIN := hideIt hin
              have hHW := hideIt (And.intro hX hs)
              have hlen : (S.q x).length ≤ 1000 := by
                have h1 := riv_len I hx4
                unfold rivL at h1
                rw [List.length_append] at h1
                rw [sq x hx4]
                omega
              clear hall hin W' J' stk sc sq WO hX hs
              have i0 : (0 : Int) ≤ x := by omega
              have i1 : (x : Int) < 4 := by omega
              obtain ⟨k0, ⟨v, k1, hids⟩, _⟩ := LK0.st.cores hx4
              have hcl := clone_ids hids hlen
              have r1 := RG.c1
              go_wp2_with fail
              refine hcl.mono ?_
              rintro e w2 ⟨v', rfl, hown, hb2⟩
              have LK2 := LK0.keep hb2
              have RG2 := RG.blk (hb2.block b8 RG.lt)
              have hw2 : wc.heap.size ≤ w2.heap.size := hb2.size
              have hl8 := RG.lt
              have hl9 := LK0.s9.lt
              have hl5 := LK0.st.lt
              have hl4 := LK0.hh.lt
              have hBm := LK0.m.lt
              have hmm := LK0.m.mlt
              have HLK0 := hideIt (And.intro LK0 RG)
              clear LK0 RG r1 k0 k1 hids hcl
              obtain ⟨k0, _⟩ := LK2.st.cores hx4
              rw [hcx] at k0
              go_upto_if 58 with fail
              go_cut [11, 12] from 44 to 71 (fun a11 a12 wd => ∃ g cap1 : Nat, a11 = .slice (some ⟨g, 0, none⟩) (rivL σ.s Q x).length cap1 ∧ LK w wd B mb t' (4 * i + 4) ν' τ' σ' b4 b5 base b9 base9 S S9 cs (wasF σ.s x i η) ∧ RgAt wd b8 0 (x : Int) (X : Int) tm hm mm pp l.length cap ∧ Hid (∀ (j b : Nat), (rivL σ.s Q x)[j]? = some b → wd.cell? ⟨g, j, none⟩ = some (.int .i64 (b : Int))))
              case first =>
                rcases I.cur x hx4 with hcur | ⟨p, hp16, _, hcur, _, _⟩
                · have e58 : (σ.s.cur x != -1) = false := by simp [hcur]
                  have eriv : rivL σ.s Q x = S.q x := by rw [rivL, if_pos hcur, List.append_nil, HSQ.out]
                  have ew : wasF σ.s x i η = η := by rw [wasF, if_pos hcur]
                  have HE := hideIt (And.intro eriv ew)
                  clear eriv ew
                  go_wp2
                  go_meet
                  case rel =>
                    obtain ⟨eriv, ew⟩ := HE.out
                    rcases ids_own hown with ⟨h1, h2⟩ | ⟨g, cap1, h1, h2, h3, h4⟩
                    · have := hIN.out
                      rw [eriv, h1] at this
                      simp at this
                    · refine ⟨g, cap1, by rw [eriv]; exact h1, by rw [ew]; exact LK2, RG2, hideIt (by rw [eriv]; exact h4)⟩
                · have e58 : (σ.s.cur x != -1) = true := by rw [hcur]; simp
                  have eriv : rivL σ.s Q x = S.q x ++ [p] := by rw [rivL, if_neg (by omega), HSQ.out, hcur]; rfl
                  have ew : wasF σ.s x i η = fun y => if y = p then (i : Int) + 1 else η y := by rw [wasF, if_neg (by omega), hcur]; rfl
                  have HE := hideIt (And.intro eriv ew)
                  clear eriv ew
                  rw [hcur] at k0 e58
                  rw [hcur]
                  have p0 : (0 : Int) ≤ p := by omega
                  have p1 : (p : Int) < 16 := by omega
                  have hwi : IntKind.i64.wrap ((i : Int) + 1) = (i : Int) + 1 := by rw [IntKind.wrap_i64]; omega
                  obtain ⟨i0_, hi_, hz0, hz1, hz2⟩ := info_parts info35
                  have hr : ∀ k, v'.ownBlock = some k → wc.heap.size ≤ k := fun k hk => (hown.lt k hk).1
                  have hfzb : ∀ (w3 : World) (o : Nat), Below wc.heap.size wc w3 → w3.frozen? ⟨b4, o, none⟩ = false := fun w3 o h => (World.frozen?_of_block (a := ⟨b4, o, none⟩) (h.block b4 hl4)).trans (HLK0.out.1.hh.fz o)
                  have HFZ := hideIt hfzb
                  clear hfzb
                  go_upto_region 17 with (first | (at_builtin; refine wpList_append_own _ rfl (.tmp 59) (.tmp 61) 50 rfl wc.heap.size 35 i0_ (.int .i64 0) 1 8 Tryz.underlying50 hi_ hz0 hz1 hz2 rfl (by decide) _ (S.q x).length (idCells (S.q x)) rfl (hown.alloc _) ⟨w2.heap.size, 0, none⟩ 1 1 [.int .i64 (p : Int)] rfl rfl (cell_one_new _ _ _) (fun x hx => by simp at hx; rw [hx]; rfl) (by unfold maxLen; omega) (by omega) (by simp; omega) ?_; intro v3 w3 hown3 hgrow3 hblk3; have hb3 : Below wc.heap.size wc w3 := below_grown (hb2.trans ((one_alloc w2 _).mono hw2)) hgrow3 (by simp; omega) hr; have hf4 := fun o => HFZ.out w3 o hb3; have hc4 := (World.cell?_of_block (a := ⟨b4, p, none⟩) (hb3.block b4 hl4)).trans (HLK0.out.1.hh.cell p hp16); have HG := hideIt hown3; clear hgrow3 hblk3 hown3) | go_in)
                  go_wp2
                  go_meet
                  case rel =>
                    obtain ⟨eriv, ew⟩ := HE.out
                    have hids := ids_own (ids_snoc HG.out)
                    have LK3 := HLK0.out.1.keep hb3
                    have LK4 := LK3.put hp16 ((i : Int) + 1) HH.out.h0 HH.out.h1 h94
                    rcases hids with ⟨h1, h2⟩ | ⟨g, cap1, h1, h2, h3, h4⟩
                    · simp at h1
                    · refine ⟨g, cap1, by rw [eriv]; exact h1, by rw [ew]; exact LK4, HLK0.out.2.blk ((far_set (by omega)).trans (hb3.block b8 hl8)), hideIt ?_⟩
                      rw [eriv]
                      exact fun j b hj => (World.cell?_of_block (a := ⟨g, j, none⟩) (far_set (by show g ≠ b4; omega))).trans (h4 j b hj)
              case rest =>
              clear LK2 RG2 k0 hown
              obtain ⟨g, cap1, rfl, LK1, RG1, HGC⟩ := hcut
              have hrl := riv_len I hx4
              have hco := contains_ids (cap := cap1) HGC.out hIN.out hrl hX16
              have z1 := RG1.c2
              go_wp2_with fail
              refine hco.mono ?_
              rintro e wc ⟨rfl, rfl⟩
              clear hco z1
              go_wp2_with fail
              go_loopg [74] (rivL σ.s Q x).length (fun gg v wr => ∃ j : Nat, j + gg = (rivL σ.s Q x).length ∧ v = .int .i64 (j : Int) ∧ LK w wr B mb t' (4 * i + 4) ν' τ' σ' b4 b5 base b9 base9 S S9 cs (wasF σ.s x i η) ∧ RgAt wr b8 0 (x : Int) (X : Int) tm hm mm pp l.length cap ∧ Hid (∀ (j b : Nat), (rivL σ.s Q x)[j]? = some b → wr.cell? ⟨g, j, none⟩ = some (.int .i64 (b : Int))))
              case atStart => exact ⟨0, by omega, rfl, LK1, RG1, HGC⟩
              case round =>
                clear LK1 RG1 HGC
                obtain ⟨j, hjg, rfl, LK1, RG1, HGC⟩ := hrel
                by_cases hj : j < (rivL σ.s Q x).length
                · have j0 : (0 : Int) ≤ j := by omega
                  have j1 : (j : Int) < ((rivL σ.s Q x).length : Int) := by omega
                  have hbx : ∃ b, (rivL σ.s Q x)[j]? = some b := ⟨(rivL σ.s Q x)[j], List.getElem?_eq_getElem hj⟩
                  obtain ⟨u, hbj⟩ := hbx
                  have tj := HGC.out j u hbj
                  obtain ⟨hu16, hbest⟩ := HALL.out u (List.mem_of_getElem? hbj)
                  have x0 : (0 : Int) ≤ u := by omega
                  have x1 : (u : Int) < 16 := by omega
                  have x2 : (0 : Int) ≤ X := by omega
                  have x3 : (X : Int) < 16 := by omega
                  have z0 := (LK1.st.task hu16).2.2
                  have z1 := RG1.c2
                  have z2 := (LK1.st.task hX16).2.2
                  have z3 := LK1.hh.cell u hu16
                  have z4 := LK1.hh.cell X hX16
                  have HB := hideIt (And.intro hbj hbest)
                  clear hbj hbest
                  generalize hbu : (S.tk u).2.2 = bu at z0
                  generalize hbt : (S.tk X).2.2 = bt at z2
                  generalize heu : wasF σ.s x i η u = eu at z3
                  generalize het : wasF σ.s x i η X = et at z4
                  have HV := hideIt (And.intro hbu (And.intro hbt (And.intro heu het)))
                  clear hbu hbt heu het
                  have hcmp : u ≠ X → bt ≤ bu ∧ (bu = bt → et ≤ eu) := fun hne => by
                    obtain ⟨e1, e2, e3, e4⟩ := HV.out
                    rw [← e1, ← e2, ← e3, ← e4]
                    exact HB.out.2 hne
                  go_upto_region 23 with fail
                  refine wp_region_held_drew (S := (fun w' => w'.cell? ⟨b5, 1 + u * 3 + 2, none⟩ = some (.int .i64 bu) ∧ w'.cell? ⟨b8, 2, none⟩ = some (.int .i64 (X : Int)) ∧ w'.cell? ⟨b5, 1 + X * 3 + 2, none⟩ = some (.int .i64 bt))) (by kernel_rfl) ⟨z0, z1, z2⟩ (fun hHeld => ?_)
                  refine wpAnyH_take (i := 0) (oi := { dst := some 78, op := Go.Op.move (Go.Operand.tmp 14), type := 35, pos := _, after := #[], guard := none }) (v := ?vv1) rfl (by kernel_rfl) (by kernel_rfl) (by kernel_rfl) (fun _ _ _ h => h) (Or.inl ⟨by rfl, ?hy1⟩) (by assumption) ?tk1
                  case hy1 => (intro w hSw; (try dsimp only at hSw); go_simp; (try with_reducible rfl))
                  try simp only [Act.put, List.setIfInBounds_toArray, List.set_cons_zero, List.set_cons_succ]
                  refine wpAnyH_take (i := 1) (oi := { dst := some 79, op := Go.Op.fieldAddr 61 (Go.Operand.tmp 5) 1, type := 0, pos := _, after := #[], guard := none }) (v := ?vv2) rfl (by kernel_rfl) (by kernel_rfl) (by kernel_rfl) (fun _ _ _ h => h) (Or.inl ⟨by rfl, ?hy2⟩) (by assumption) ?tk2
                  case hy2 => (intro w hSw; (try dsimp only at hSw); go_simp; (try with_reducible rfl))
                  try simp only [Act.put, List.setIfInBounds_toArray, List.set_cons_zero, List.set_cons_succ]
                  refine wpAnyH_take (i := 2) (oi := { dst := some 80, op := Go.Op.indexAddr 49 (Go.Operand.tmp 79) (Go.Operand.tmp 78), type := 0, pos := _, after := #[{ on := 1, ground := Go.Ground.data }, { on := 0, ground := Go.Ground.data }], guard := none }) (v := ?vv3) rfl (by kernel_rfl) (by kernel_rfl) (by kernel_rfl) (fun _ _ _ h => h) (Or.inl ⟨by rfl, ?hy3⟩) (by assumption) ?tk3
                  case hy3 => (intro w hSw; (try dsimp only at hSw); go_simp; (try with_reducible rfl))
                  try simp only [Act.put, List.setIfInBounds_toArray, List.set_cons_zero, List.set_cons_succ]
                  refine wpAnyH_take (i := 3) (oi := { dst := some 81, op := Go.Op.fieldAddr 48 (Go.Operand.tmp 80) 2, type := 0, pos := _, after := #[{ on := 2, ground := Go.Ground.data }], guard := none }) (v := ?vv4) rfl (by kernel_rfl) (by kernel_rfl) (by kernel_rfl) (fun _ _ _ h => h) (Or.inl ⟨by rfl, ?hy4⟩) (by assumption) ?tk4
                  case hy4 => (intro w hSw; (try dsimp only at hSw); go_simp; (try with_reducible rfl))
                  try simp only [Act.put, List.setIfInBounds_toArray, List.set_cons_zero, List.set_cons_succ]
                  refine wpAnyH_take (i := 4) (oi := { dst := some 82, op := Go.Op.load 3 (Go.Operand.tmp 81), type := 3, pos := _, after := #[{ on := 3, ground := Go.Ground.data }], guard := none }) (v := ?vv5) rfl (by kernel_rfl) (by kernel_rfl) (by kernel_rfl) (fun _ _ _ h => h) (Or.inl ⟨by rfl, ?hy5⟩) (by assumption) ?tk5
                  case hy5 => (intro w hSw; (try dsimp only at hSw); go_simp; (try with_reducible rfl))
                  try simp only [Act.put, List.setIfInBounds_toArray, List.set_cons_zero, List.set_cons_succ]
                  refine wpAnyH_take (i := 5) (oi := { dst := some 83, op := Go.Op.fieldAddr 43 (Go.Operand.tmp 8) 2, type := 0, pos := _, after := #[{ on := 11, ground := Go.Ground.gcOnly Go.Departure.lateStores }], guard := none }) (v := ?vv6) rfl (by kernel_rfl) (by kernel_rfl) (by kernel_rfl) (fun _ _ _ h => h) (Or.inl ⟨by rfl, ?hy6⟩) (by assumption) ?tk6
                  case hy6 => (intro w hSw; (try dsimp only at hSw); go_simp; (try with_reducible rfl))
                  try simp only [Act.put, List.setIfInBounds_toArray, List.set_cons_zero, List.set_cons_succ]
                  refine wpAnyH_take (i := 6) (oi := { dst := some 84, op := Go.Op.load 35 (Go.Operand.tmp 83), type := 35, pos := _, after := #[{ on := 5, ground := Go.Ground.data }, { on := 11, ground := Go.Ground.gcOnly Go.Departure.lateStores }], guard := none }) (v := ?vv7) rfl (by kernel_rfl) (by kernel_rfl) (by kernel_rfl) (fun _ _ _ h => h) (Or.inl ⟨by rfl, ?hy7⟩) (by assumption) ?tk7
                  case hy7 => (intro w hSw; (try dsimp only at hSw); go_simp; (try with_reducible rfl))
                  try simp only [Act.put, List.setIfInBounds_toArray, List.set_cons_zero, List.set_cons_succ]
                  refine wpAnyH_take (i := 7) (oi := { dst := some 85, op := Go.Op.fieldAddr 61 (Go.Operand.tmp 5) 1, type := 0, pos := _, after := #[{ on := 11, ground := Go.Ground.gcOnly Go.Departure.lateStores }], guard := none }) (v := ?vv8) rfl (by kernel_rfl) (by kernel_rfl) (by kernel_rfl) (fun _ _ _ h => h) (Or.inl ⟨by rfl, ?hy8⟩) (by assumption) ?tk8
                  case hy8 => (intro w hSw; (try dsimp only at hSw); go_simp; (try with_reducible rfl))
                  try simp only [Act.put, List.setIfInBounds_toArray, List.set_cons_zero, List.set_cons_succ]
                  refine wpAnyH_take (i := 8) (oi := { dst := some 86, op := Go.Op.indexAddr 49 (Go.Operand.tmp 85) (Go.Operand.tmp 84), type := 0, pos := _, after := #[{ on := 7, ground := Go.Ground.data }, { on := 6, ground := Go.Ground.data }, { on := 11, ground := Go.Ground.gcOnly Go.Departure.lateStores }], guard := none }) (v := ?vv9) rfl (by kernel_rfl) (by kernel_rfl) (by kernel_rfl) (fun _ _ _ h => h) (Or.inl ⟨by rfl, ?hy9⟩) (by assumption) ?tk9
                  case hy9 => (intro w hSw; (try dsimp only at hSw); go_simp; (try with_reducible rfl))
                  try simp only [Act.put, List.setIfInBounds_toArray, List.set_cons_zero, List.set_cons_succ]
                  refine wpAnyH_take (i := 9) (oi := { dst := some 87, op := Go.Op.fieldAddr 48 (Go.Operand.tmp 86) 2, type := 0, pos := _, after := #[{ on := 8, ground := Go.Ground.data }, { on := 11, ground := Go.Ground.gcOnly Go.Departure.lateStores }], guard := none }) (v := ?vv10) rfl (by kernel_rfl) (by kernel_rfl) (by kernel_rfl) (fun _ _ _ h => h) (Or.inl ⟨by rfl, ?hy10⟩) (by assumption) ?tk10
                  case hy10 => (intro w hSw; (try dsimp only at hSw); go_simp; (try with_reducible rfl))
                  try simp only [Act.put, List.setIfInBounds_toArray, List.set_cons_zero, List.set_cons_succ]
                  refine wpAnyH_take (i := 10) (oi := { dst := some 88, op := Go.Op.load 3 (Go.Operand.tmp 87), type := 3, pos := _, after := #[{ on := 9, ground := Go.Ground.data }, { on := 11, ground := Go.Ground.gcOnly Go.Departure.lateStores }], guard := none }) (v := ?vv11) rfl (by kernel_rfl) (by kernel_rfl) (by kernel_rfl) (fun _ _ _ h => h) (Or.inl ⟨by rfl, ?hy11⟩) (by assumption) ?tk11
                  case hy11 => (intro w hSw; (try dsimp only at hSw); go_simp; (try with_reducible rfl))
                  try simp only [Act.put, List.setIfInBounds_toArray, List.set_cons_zero, List.set_cons_succ]
                  refine wpAnyH_take (i := 11) (oi := { dst := some 15, op := Go.Op.assign (Go.Operand.tmp 82), type := 3, pos := _, after := #[{ on := 4, ground := Go.Ground.data }, { on := 0, ground := Go.Ground.phase }, { on := 1, ground := Go.Ground.phase }, { on := 2, ground := Go.Ground.phase }, { on := 3, ground := Go.Ground.phase }, { on := 4, ground := Go.Ground.phase }, { on := 5, ground := Go.Ground.textOnly Go.Departure.lateStores }, { on := 6, ground := Go.Ground.textOnly Go.Departure.lateStores }, { on := 7, ground := Go.Ground.textOnly Go.Departure.lateStores }, { on := 8, ground := Go.Ground.textOnly Go.Departure.lateStores }, { on := 9, ground := Go.Ground.textOnly Go.Departure.lateStores }, { on := 10, ground := Go.Ground.textOnly Go.Departure.lateStores }], guard := none }) (v := ?vv12) rfl (by kernel_rfl) (by kernel_rfl) (by kernel_rfl) (fun _ _ _ h => h) (Or.inl ⟨by rfl, ?hy12⟩) (by assumption) ?tk12
                  case hy12 => (intro w hSw; (try dsimp only at hSw); go_simp; (try with_reducible rfl))
                  try simp only [Act.put, List.setIfInBounds_toArray, List.set_cons_zero, List.set_cons_succ]
                  refine wpAnyH_take (i := 12) (oi := { dst := some 16, op := Go.Op.assign (Go.Operand.tmp 88), type := 3, pos := _, after := #[{ on := 10, ground := Go.Ground.data }, { on := 11, ground := Go.Ground.chain }, { on := 0, ground := Go.Ground.phase }, { on := 1, ground := Go.Ground.phase }, { on := 2, ground := Go.Ground.phase }, { on := 3, ground := Go.Ground.phase }, { on := 4, ground := Go.Ground.phase }, { on := 5, ground := Go.Ground.phase }, { on := 6, ground := Go.Ground.phase }, { on := 7, ground := Go.Ground.phase }, { on := 8, ground := Go.Ground.phase }, { on := 9, ground := Go.Ground.phase }, { on := 10, ground := Go.Ground.phase }, { on := 11, ground := Go.Ground.phase }], guard := none }) (v := ?vv13) rfl (by kernel_rfl) (by kernel_rfl) (by kernel_rfl) (fun _ _ _ h => h) (Or.inl ⟨by rfl, ?hy13⟩) (by assumption) ?tk13
                  case hy13 => (intro w hSw; (try dsimp only at hSw); go_simp; (try with_reducible rfl))
                  try simp only [Act.put, List.setIfInBounds_toArray, List.set_cons_zero, List.set_cons_succ]
                  refine wpAnyH_done (by kernel_rfl) ?_ _
                  go_upto_region 24 with fail
                  by_cases hne : u = X
                  · have e1 : ((u : Int) != (X : Int)) = false := by simp [hne]
                    clear hcmp hne
                    refine wp_region_held_drew (S := (fun w' => w'.cell? ⟨b8, 2, none⟩ = some (.int .i64 (X : Int)) ∧ w'.cell? ⟨b4, u, none⟩ = some (.int .i64 eu) ∧ w'.cell? ⟨b4, X, none⟩ = some (.int .i64 et))) (by kernel_rfl) ⟨z1, z3, z4⟩ (fun hHeld => ?_)
                    refine wpAnyH_take (i := 0) (oi := { dst := some 89, op := Go.Op.move (Go.Operand.tmp 14), type := 35, pos := _, after := #[], guard := none }) (v := ?vv14) rfl (by kernel_rfl) (by kernel_rfl) (by kernel_rfl) (fun _ _ _ h => h) (Or.inl ⟨by rfl, ?hy14⟩) (by assumption) ?tk14
                    case hy14 => (intro w hSw; (try dsimp only at hSw); go_simp; (try with_reducible rfl))
                    try simp only [Act.put, List.setIfInBounds_toArray, List.set_cons_zero, List.set_cons_succ]
                    refine wpAnyH_take (i := 1) (oi := { dst := some 90, op := Go.Op.fieldAddr 43 (Go.Operand.tmp 8) 2, type := 0, pos := _, after := #[], guard := none }) (v := ?vv15) rfl (by kernel_rfl) (by kernel_rfl) (by kernel_rfl) (fun _ _ _ h => h) (Or.inl ⟨by rfl, ?hy15⟩) (by assumption) ?tk15
                    case hy15 => (intro w hSw; (try dsimp only at hSw); go_simp; (try with_reducible rfl))
                    try simp only [Act.put, List.setIfInBounds_toArray, List.set_cons_zero, List.set_cons_succ]
                    refine wpAnyH_take (i := 2) (oi := { dst := some 91, op := Go.Op.load 35 (Go.Operand.tmp 90), type := 35, pos := _, after := #[{ on := 1, ground := Go.Ground.data }], guard := none }) (v := ?vv16) rfl (by kernel_rfl) (by kernel_rfl) (by kernel_rfl) (fun _ _ _ h => h) (Or.inl ⟨by rfl, ?hy16⟩) (by assumption) ?tk16
                    case hy16 => (intro w hSw; (try dsimp only at hSw); go_simp; (try with_reducible rfl))
                    try simp only [Act.put, List.setIfInBounds_toArray, List.set_cons_zero, List.set_cons_succ]
                    refine wpAnyH_take (i := 3) (oi := { dst := some 92, op := Go.Op.binOp Go.BinOp.neq 35 (Go.Operand.tmp 89) (Go.Operand.tmp 91) 35, type := 4, pos := _, after := #[{ on := 0, ground := Go.Ground.data }, { on := 2, ground := Go.Ground.data }], guard := none }) (v := ?vv17) rfl (by kernel_rfl) (by kernel_rfl) (by kernel_rfl) (fun _ _ _ h => h) (Or.inl ⟨by rfl, ?hy17⟩) (by assumption) ?tk17
                    case hy17 => (intro w hSw; (try dsimp only at hSw); go_simp; (try with_reducible rfl))
                    try simp only [Act.put, List.setIfInBounds_toArray, List.set_cons_zero, List.set_cons_succ]
                    refine wpAnyH_take (i := 4) (oi := { dst := some 93, op := Go.Op.move (Go.Operand.tmp 92), type := 4, pos := _, after := #[{ on := 3, ground := Go.Ground.data }], guard := none }) (v := ?vv18) rfl (by kernel_rfl) (by kernel_rfl) (by kernel_rfl) (fun _ _ _ h => h) (Or.inl ⟨by rfl, ?hy18⟩) (by assumption) ?tk18
                    case hy18 => (intro w hSw; (try dsimp only at hSw); go_simp; (try with_reducible rfl))
                    try simp only [Act.put, List.setIfInBounds_toArray, List.set_cons_zero, List.set_cons_succ]
                    refine wpAnyH_take (i := 5) (oi := { dst := some 94, op := Go.Op.move (Go.Operand.tmp 15), type := 3, pos := _, after := #[{ on := 4, ground := Go.Ground.guard }], guard := some (4, true) }) (v := undef) rfl (by kernel_rfl) (by kernel_rfl) (by kernel_rfl) (fun _ _ _ h => h) (Or.inr ⟨by rfl, rfl⟩) (by assumption) ?tk19
                    try simp only [Act.put, List.setIfInBounds_toArray, List.set_cons_zero, List.set_cons_succ]
                    refine wpAnyH_take (i := 6) (oi := { dst := some 95, op := Go.Op.move (Go.Operand.tmp 16), type := 3, pos := _, after := #[{ on := 4, ground := Go.Ground.guard }], guard := some (4, true) }) (v := undef) rfl (by kernel_rfl) (by kernel_rfl) (by kernel_rfl) (fun _ _ _ h => h) (Or.inr ⟨by rfl, rfl⟩) (by assumption) ?tk20
                    try simp only [Act.put, List.setIfInBounds_toArray, List.set_cons_zero, List.set_cons_succ]
                    refine wpAnyH_take (i := 7) (oi := { dst := some 96, op := Go.Op.binOp Go.BinOp.lss 3 (Go.Operand.tmp 94) (Go.Operand.tmp 95) 3, type := 4, pos := _, after := #[{ on := 5, ground := Go.Ground.data }, { on := 6, ground := Go.Ground.data }, { on := 4, ground := Go.Ground.guard }], guard := some (4, true) }) (v := undef) rfl (by kernel_rfl) (by kernel_rfl) (by kernel_rfl) (fun _ _ _ h => h) (Or.inr ⟨by rfl, rfl⟩) (by assumption) ?tk21
                    try simp only [Act.put, List.setIfInBounds_toArray, List.set_cons_zero, List.set_cons_succ]
                    refine wpAnyH_take (i := 8) (oi := { dst := some 97, op := Go.Op.move (Go.Operand.tmp 96), type := 4, pos := _, after := #[{ on := 7, ground := Go.Ground.data }, { on := 4, ground := Go.Ground.chain }, { on := 4, ground := Go.Ground.guard }], guard := some (4, true) }) (v := undef) rfl (by kernel_rfl) (by kernel_rfl) (by kernel_rfl) (fun _ _ _ h => h) (Or.inr ⟨by rfl, rfl⟩) (by assumption) ?tk22
                    try simp only [Act.put, List.setIfInBounds_toArray, List.set_cons_zero, List.set_cons_succ]
                    refine wpAnyH_take (i := 9) (oi := { dst := some 98, op := Go.Op.move (Go.Operand.tmp 15), type := 3, pos := _, after := #[{ on := 8, ground := Go.Ground.guard }], guard := some (8, false) }) (v := undef) rfl (by kernel_rfl) (by kernel_rfl) (by kernel_rfl) (fun _ _ _ h => h) (Or.inr ⟨by rfl, rfl⟩) (by assumption) ?tk23
                    try simp only [Act.put, List.setIfInBounds_toArray, List.set_cons_zero, List.set_cons_succ]
                    refine wpAnyH_take (i := 10) (oi := { dst := some 99, op := Go.Op.move (Go.Operand.tmp 16), type := 3, pos := _, after := #[{ on := 8, ground := Go.Ground.guard }], guard := some (8, false) }) (v := undef) rfl (by kernel_rfl) (by kernel_rfl) (by kernel_rfl) (fun _ _ _ h => h) (Or.inr ⟨by rfl, rfl⟩) (by assumption) ?tk24
                    try simp only [Act.put, List.setIfInBounds_toArray, List.set_cons_zero, List.set_cons_succ]
                    refine wpAnyH_take (i := 11) (oi := { dst := some 100, op := Go.Op.binOp Go.BinOp.eql 3 (Go.Operand.tmp 98) (Go.Operand.tmp 99) 3, type := 4, pos := _, after := #[{ on := 9, ground := Go.Ground.data }, { on := 10, ground := Go.Ground.data }, { on := 8, ground := Go.Ground.guard }], guard := some (8, false) }) (v := undef) rfl (by kernel_rfl) (by kernel_rfl) (by kernel_rfl) (fun _ _ _ h => h) (Or.inr ⟨by rfl, rfl⟩) (by assumption) ?tk25
                    try simp only [Act.put, List.setIfInBounds_toArray, List.set_cons_zero, List.set_cons_succ]
                    refine wpAnyH_take (i := 12) (oi := { dst := some 101, op := Go.Op.move (Go.Operand.tmp 100), type := 4, pos := _, after := #[{ on := 11, ground := Go.Ground.data }, { on := 8, ground := Go.Ground.chain }, { on := 8, ground := Go.Ground.guard }], guard := some (8, false) }) (v := undef) rfl (by kernel_rfl) (by kernel_rfl) (by kernel_rfl) (fun _ _ _ h => h) (Or.inr ⟨by rfl, rfl⟩) (by assumption) ?tk26
                    try simp only [Act.put, List.setIfInBounds_toArray, List.set_cons_zero, List.set_cons_succ]
                    refine wpAnyH_take (i := 13) (oi := { dst := some 102, op := Go.Op.move (Go.Operand.tmp 14), type := 35, pos := _, after := #[{ on := 12, ground := Go.Ground.guard }], guard := some (12, true) }) (v := undef) rfl (by kernel_rfl) (by kernel_rfl) (by kernel_rfl) (fun _ _ _ h => h) (Or.inr ⟨by rfl, rfl⟩) (by assumption) ?tk27
                    try simp only [Act.put, List.setIfInBounds_toArray, List.set_cons_zero, List.set_cons_succ]
                    refine wpAnyH_take (i := 14) (oi := { dst := some 103, op := Go.Op.indexAddr 74 (Go.Operand.tmp 4) (Go.Operand.tmp 102), type := 0, pos := _, after := #[{ on := 13, ground := Go.Ground.data }, { on := 12, ground := Go.Ground.guard }], guard := some (12, true) }) (v := undef) rfl (by kernel_rfl) (by kernel_rfl) (by kernel_rfl) (fun _ _ _ h => h) (Or.inr ⟨by rfl, rfl⟩) (by assumption) ?tk28
                    try simp only [Act.put, List.setIfInBounds_toArray, List.set_cons_zero, List.set_cons_succ]
                    refine wpAnyH_take (i := 15) (oi := { dst := some 104, op := Go.Op.load 3 (Go.Operand.tmp 103), type := 3, pos := _, after := #[{ on := 14, ground := Go.Ground.data }, { on := 12, ground := Go.Ground.guard }], guard := some (12, true) }) (v := undef) rfl (by kernel_rfl) (by kernel_rfl) (by kernel_rfl) (fun _ _ _ h => h) (Or.inr ⟨by rfl, rfl⟩) (by assumption) ?tk29
                    try simp only [Act.put, List.setIfInBounds_toArray, List.set_cons_zero, List.set_cons_succ]
                    refine wpAnyH_take (i := 16) (oi := { dst := some 105, op := Go.Op.fieldAddr 43 (Go.Operand.tmp 8) 2, type := 0, pos := _, after := #[{ on := 12, ground := Go.Ground.guard }], guard := some (12, true) }) (v := undef) rfl (by kernel_rfl) (by kernel_rfl) (by kernel_rfl) (fun _ _ _ h => h) (Or.inr ⟨by rfl, rfl⟩) (by assumption) ?tk30
                    try simp only [Act.put, List.setIfInBounds_toArray, List.set_cons_zero, List.set_cons_succ]
                    refine wpAnyH_take (i := 17) (oi := { dst := some 106, op := Go.Op.load 35 (Go.Operand.tmp 105), type := 35, pos := _, after := #[{ on := 16, ground := Go.Ground.data }, { on := 12, ground := Go.Ground.guard }], guard := some (12, true) }) (v := undef) rfl (by kernel_rfl) (by kernel_rfl) (by kernel_rfl) (fun _ _ _ h => h) (Or.inr ⟨by rfl, rfl⟩) (by assumption) ?tk31
                    try simp only [Act.put, List.setIfInBounds_toArray, List.set_cons_zero, List.set_cons_succ]
                    refine wpAnyH_take (i := 18) (oi := { dst := some 107, op := Go.Op.indexAddr 74 (Go.Operand.tmp 4) (Go.Operand.tmp 106), type := 0, pos := _, after := #[{ on := 17, ground := Go.Ground.data }, { on := 12, ground := Go.Ground.guard }], guard := some (12, true) }) (v := undef) rfl (by kernel_rfl) (by kernel_rfl) (by kernel_rfl) (fun _ _ _ h => h) (Or.inr ⟨by rfl, rfl⟩) (by assumption) ?tk32
                    try simp only [Act.put, List.setIfInBounds_toArray, List.set_cons_zero, List.set_cons_succ]
                    refine wpAnyH_take (i := 19) (oi := { dst := some 108, op := Go.Op.load 3 (Go.Operand.tmp 107), type := 3, pos := _, after := #[{ on := 18, ground := Go.Ground.data }, { on := 12, ground := Go.Ground.guard }], guard := some (12, true) }) (v := undef) rfl (by kernel_rfl) (by kernel_rfl) (by kernel_rfl) (fun _ _ _ h => h) (Or.inr ⟨by rfl, rfl⟩) (by assumption) ?tk33
                    try simp only [Act.put, List.setIfInBounds_toArray, List.set_cons_zero, List.set_cons_succ]
                    refine wpAnyH_take (i := 20) (oi := { dst := some 109, op := Go.Op.binOp Go.BinOp.lss 3 (Go.Operand.tmp 104) (Go.Operand.tmp 108) 3, type := 4, pos := _, after := #[{ on := 15, ground := Go.Ground.data }, { on := 19, ground := Go.Ground.data }, { on := 12, ground := Go.Ground.guard }], guard := some (12, true) }) (v := undef) rfl (by kernel_rfl) (by kernel_rfl) (by kernel_rfl) (fun _ _ _ h => h) (Or.inr ⟨by rfl, rfl⟩) (by assumption) ?tk34
                    try simp only [Act.put, List.setIfInBounds_toArray, List.set_cons_zero, List.set_cons_succ]
                    refine wpAnyH_take (i := 21) (oi := { dst := some 110, op := Go.Op.pick (Go.Operand.tmp 101) (Go.Operand.tmp 109) (Go.Operand.const (Go.Value.bool false)), type := 4, pos := _, after := #[{ on := 12, ground := Go.Ground.data }, { on := 20, ground := Go.Ground.data }, { on := 8, ground := Go.Ground.guard }], guard := some (8, false) }) (v := undef) rfl (by kernel_rfl) (by kernel_rfl) (by kernel_rfl) (fun _ _ _ h => h) (Or.inr ⟨by rfl, rfl⟩) (by assumption) ?tk35
                    try simp only [Act.put, List.setIfInBounds_toArray, List.set_cons_zero, List.set_cons_succ]
                    refine wpAnyH_take (i := 22) (oi := { dst := some 111, op := Go.Op.pick (Go.Operand.tmp 97) (Go.Operand.const (Go.Value.bool true)) (Go.Operand.tmp 110), type := 4, pos := _, after := #[{ on := 8, ground := Go.Ground.data }, { on := 21, ground := Go.Ground.data }, { on := 4, ground := Go.Ground.guard }], guard := some (4, true) }) (v := undef) rfl (by kernel_rfl) (by kernel_rfl) (by kernel_rfl) (fun _ _ _ h => h) (Or.inr ⟨by rfl, rfl⟩) (by assumption) ?tk36
                    try simp only [Act.put, List.setIfInBounds_toArray, List.set_cons_zero, List.set_cons_succ]
                    refine wpAnyH_take (i := 23) (oi := { dst := some 112, op := Go.Op.pick (Go.Operand.tmp 93) (Go.Operand.tmp 111) (Go.Operand.const (Go.Value.bool false)), type := 4, pos := _, after := #[{ on := 4, ground := Go.Ground.data }, { on := 22, ground := Go.Ground.data }], guard := none }) (v := ?vv37) rfl (by kernel_rfl) (by kernel_rfl) (by kernel_rfl) (fun _ _ _ h => h) (Or.inl ⟨by rfl, ?hy37⟩) (by assumption) ?tk37
                    case hy37 => (intro w hSw; (try dsimp only at hSw); go_simp; (try with_reducible rfl))
                    try simp only [Act.put, List.setIfInBounds_toArray, List.set_cons_zero, List.set_cons_succ]
                    refine wpAnyH_done (by kernel_rfl) ?_ _
                    go_wp2
                    go_roundg ((rivL σ.s Q x).length - (j + 1))
                    case measure => omega
                    case rel => exact ⟨j + 1, by omega, by go_num, LK1.drew.drew, RG1.blk rfl, HGC⟩
                  · have e1 : ((u : Int) != (X : Int)) = true := by simp; omega
                    obtain ⟨h1, h2⟩ := hcmp hne
                    have n1 : ¬ (bu < bt) := by omega
                    by_cases hq : bu = bt
                    · have e2 : (bu == bt) = true := by simp [hq]
                      have n2 : ¬ (eu < et) := by have := h2 hq; omega
                      clear hcmp h1 h2 hq hne
                      refine wp_region_held_drew (S := (fun w' => w'.cell? ⟨b8, 2, none⟩ = some (.int .i64 (X : Int)) ∧ w'.cell? ⟨b4, u, none⟩ = some (.int .i64 eu) ∧ w'.cell? ⟨b4, X, none⟩ = some (.int .i64 et))) (by kernel_rfl) ⟨z1, z3, z4⟩ (fun hHeld => ?_)
                      refine wpAnyH_take (i := 0) (oi := { dst := some 89, op := Go.Op.move (Go.Operand.tmp 14), type := 35, pos := _, after := #[], guard := none }) (v := ?vv62) rfl (by kernel_rfl) (by kernel_rfl) (by kernel_rfl) (fun _ _ _ h => h) (Or.inl ⟨by rfl, ?hy62⟩) (by assumption) ?tk62
                      case hy62 => (intro w hSw; (try dsimp only at hSw); go_simp; (try with_reducible rfl))
                      try simp only [Act.put, List.setIfInBounds_toArray, List.set_cons_zero, List.set_cons_succ]
                      refine wpAnyH_take (i := 1) (oi := { dst := some 90, op := Go.Op.fieldAddr 43 (Go.Operand.tmp 8) 2, type := 0, pos := _, after := #[], guard := none }) (v := ?vv63) rfl (by kernel_rfl) (by kernel_rfl) (by kernel_rfl) (fun _ _ _ h => h) (Or.inl ⟨by rfl, ?hy63⟩) (by assumption) ?tk63
                      case hy63 => (intro w hSw; (try dsimp only at hSw); go_simp; (try with_reducible rfl))
                      try simp only [Act.put, List.setIfInBounds_toArray, List.set_cons_zero, List.set_cons_succ]
                      refine wpAnyH_take (i := 2) (oi := { dst := some 91, op := Go.Op.load 35 (Go.Operand.tmp 90), type := 35, pos := _, after := #[{ on := 1, ground := Go.Ground.data }], guard := none }) (v := ?vv64) rfl (by kernel_rfl) (by kernel_rfl) (by kernel_rfl) (fun _ _ _ h => h) (Or.inl ⟨by rfl, ?hy64⟩) (by assumption) ?tk64
                      case hy64 => (intro w hSw; (try dsimp only at hSw); go_simp; (try with_reducible rfl))
                      try simp only [Act.put, List.setIfInBounds_toArray, List.set_cons_zero, List.set_cons_succ]
                      refine wpAnyH_take (i := 3) (oi := { dst := some 92, op := Go.Op.binOp Go.BinOp.neq 35 (Go.Operand.tmp 89) (Go.Operand.tmp 91) 35, type := 4, pos := _, after := #[{ on := 0, ground := Go.Ground.data }, { on := 2, ground := Go.Ground.data }], guard := none }) (v := ?vv65) rfl (by kernel_rfl) (by kernel_rfl) (by kernel_rfl) (fun _ _ _ h => h) (Or.inl ⟨by rfl, ?hy65⟩) (by assumption) ?tk65
                      case hy65 => (intro w hSw; (try dsimp only at hSw); go_simp; (try with_reducible rfl))
                      try simp only [Act.put, List.setIfInBounds_toArray, List.set_cons_zero, List.set_cons_succ]
                      refine wpAnyH_take (i := 4) (oi := { dst := some 93, op := Go.Op.move (Go.Operand.tmp 92), type := 4, pos := _, after := #[{ on := 3, ground := Go.Ground.data }], guard := none }) (v := ?vv66) rfl (by kernel_rfl) (by kernel_rfl) (by kernel_rfl) (fun _ _ _ h => h) (Or.inl ⟨by rfl, ?hy66⟩) (by assumption) ?tk66
                      case hy66 => (intro w hSw; (try dsimp only at hSw); go_simp; (try with_reducible rfl))
                      try simp only [Act.put, List.setIfInBounds_toArray, List.set_cons_zero, List.set_cons_succ]
                      refine wpAnyH_take (i := 5) (oi := { dst := some 94, op := Go.Op.move (Go.Operand.tmp 15), type := 3, pos := _, after := #[{ on := 4, ground := Go.Ground.guard }], guard := some (4, true) }) (v := ?vv67) rfl (by kernel_rfl) (by kernel_rfl) (by kernel_rfl) (fun _ _ _ h => h) (Or.inl ⟨by rfl, ?hy67⟩) (by assumption) ?tk67
                      case hy67 => (intro w hSw; (try dsimp only at hSw); go_simp; (try with_reducible rfl))
                      try simp only [Act.put, List.setIfInBounds_toArray, List.set_cons_zero, List.set_cons_succ]
                      refine wpAnyH_take (i := 6) (oi := { dst := some 95, op := Go.Op.move (Go.Operand.tmp 16), type := 3, pos := _, after := #[{ on := 4, ground := Go.Ground.guard }], guard := some (4, true) }) (v := ?vv68) rfl (by kernel_rfl) (by kernel_rfl) (by kernel_rfl) (fun _ _ _ h => h) (Or.inl ⟨by rfl, ?hy68⟩) (by assumption) ?tk68
                      case hy68 => (intro w hSw; (try dsimp only at hSw); go_simp; (try with_reducible rfl))
                      try simp only [Act.put, List.setIfInBounds_toArray, List.set_cons_zero, List.set_cons_succ]
                      refine wpAnyH_take (i := 7) (oi := { dst := some 96, op := Go.Op.binOp Go.BinOp.lss 3 (Go.Operand.tmp 94) (Go.Operand.tmp 95) 3, type := 4, pos := _, after := #[{ on := 5, ground := Go.Ground.data }, { on := 6, ground := Go.Ground.data }, { on := 4, ground := Go.Ground.guard }], guard := some (4, true) }) (v := ?vv69) rfl (by kernel_rfl) (by kernel_rfl) (by kernel_rfl) (fun _ _ _ h => h) (Or.inl ⟨by rfl, ?hy69⟩) (by assumption) ?tk69
                      case hy69 => (intro w hSw; (try dsimp only at hSw); go_simp; (try with_reducible rfl))
                      try simp only [Act.put, List.setIfInBounds_toArray, List.set_cons_zero, List.set_cons_succ]
                      refine wpAnyH_take (i := 8) (oi := { dst := some 97, op := Go.Op.move (Go.Operand.tmp 96), type := 4, pos := _, after := #[{ on := 7, ground := Go.Ground.data }, { on := 4, ground := Go.Ground.chain }, { on := 4, ground := Go.Ground.guard }], guard := some (4, true) }) (v := ?vv70) rfl (by kernel_rfl) (by kernel_rfl) (by kernel_rfl) (fun _ _ _ h => h) (Or.inl ⟨by rfl, ?hy70⟩) (by assumption) ?tk70
                      case hy70 => (intro w hSw; (try dsimp only at hSw); go_simp; (try with_reducible rfl))
                      try simp only [Act.put, List.setIfInBounds_toArray, List.set_cons_zero, List.set_cons_succ]
                      refine wpAnyH_take (i := 9) (oi := { dst := some 98, op := Go.Op.move (Go.Operand.tmp 15), type := 3, pos := _, after := #[{ on := 8, ground := Go.Ground.guard }], guard := some (8, false) }) (v := ?vv71) rfl (by kernel_rfl) (by kernel_rfl) (by kernel_rfl) (fun _ _ _ h => h) (Or.inl ⟨by rfl, ?hy71⟩) (by assumption) ?tk71
                      case hy71 => (intro w hSw; (try dsimp only at hSw); go_simp; (try with_reducible rfl))
                      try simp only [Act.put, List.setIfInBounds_toArray, List.set_cons_zero, List.set_cons_succ]
                      refine wpAnyH_take (i := 10) (oi := { dst := some 99, op := Go.Op.move (Go.Operand.tmp 16), type := 3, pos := _, after := #[{ on := 8, ground := Go.Ground.guard }], guard := some (8, false) }) (v := ?vv72) rfl (by kernel_rfl) (by kernel_rfl) (by kernel_rfl) (fun _ _ _ h => h) (Or.inl ⟨by rfl, ?hy72⟩) (by assumption) ?tk72
                      case hy72 => (intro w hSw; (try dsimp only at hSw); go_simp; (try with_reducible rfl))
                      try simp only [Act.put, List.setIfInBounds_toArray, List.set_cons_zero, List.set_cons_succ]
                      refine wpAnyH_take (i := 11) (oi := { dst := some 100, op := Go.Op.binOp Go.BinOp.eql 3 (Go.Operand.tmp 98) (Go.Operand.tmp 99) 3, type := 4, pos := _, after := #[{ on := 9, ground := Go.Ground.data }, { on := 10, ground := Go.Ground.data }, { on := 8, ground := Go.Ground.guard }], guard := some (8, false) }) (v := ?vv73) rfl (by kernel_rfl) (by kernel_rfl) (by kernel_rfl) (fun _ _ _ h => h) (Or.inl ⟨by rfl, ?hy73⟩) (by assumption) ?tk73
                      case hy73 => (intro w hSw; (try dsimp only at hSw); go_simp; (try with_reducible rfl))
                      try simp only [Act.put, List.setIfInBounds_toArray, List.set_cons_zero, List.set_cons_succ]
                      refine wpAnyH_take (i := 12) (oi := { dst := some 101, op := Go.Op.move (Go.Operand.tmp 100), type := 4, pos := _, after := #[{ on := 11, ground := Go.Ground.data }, { on := 8, ground := Go.Ground.chain }, { on := 8, ground := Go.Ground.guard }], guard := some (8, false) }) (v := ?vv74) rfl (by kernel_rfl) (by kernel_rfl) (by kernel_rfl) (fun _ _ _ h => h) (Or.inl ⟨by rfl, ?hy74⟩) (by assumption) ?tk74
                      case hy74 => (intro w hSw; (try dsimp only at hSw); go_simp; (try with_reducible rfl))
                      try simp only [Act.put, List.setIfInBounds_toArray, List.set_cons_zero, List.set_cons_succ]
                      refine wpAnyH_take (i := 13) (oi := { dst := some 102, op := Go.Op.move (Go.Operand.tmp 14), type := 35, pos := _, after := #[{ on := 12, ground := Go.Ground.guard }], guard := some (12, true) }) (v := ?vv75) rfl (by kernel_rfl) (by kernel_rfl) (by kernel_rfl) (fun _ _ _ h => h) (Or.inl ⟨by rfl, ?hy75⟩) (by assumption) ?tk75
                      case hy75 => (intro w hSw; (try dsimp only at hSw); go_simp; (try with_reducible rfl))
                      try simp only [Act.put, List.setIfInBounds_toArray, List.set_cons_zero, List.set_cons_succ]
                      refine wpAnyH_take (i := 14) (oi := { dst := some 103, op := Go.Op.indexAddr 74 (Go.Operand.tmp 4) (Go.Operand.tmp 102), type := 0, pos := _, after := #[{ on := 13, ground := Go.Ground.data }, { on := 12, ground := Go.Ground.guard }], guard := some (12, true) }) (v := ?vv76) rfl (by kernel_rfl) (by kernel_rfl) (by kernel_rfl) (fun _ _ _ h => h) (Or.inl ⟨by rfl, ?hy76⟩) (by assumption) ?tk76
                      case hy76 => (intro w hSw; (try dsimp only at hSw); go_simp; (try with_reducible rfl))
                      try simp only [Act.put, List.setIfInBounds_toArray, List.set_cons_zero, List.set_cons_succ]
                      refine wpAnyH_take (i := 15) (oi := { dst := some 104, op := Go.Op.load 3 (Go.Operand.tmp 103), type := 3, pos := _, after := #[{ on := 14, ground := Go.Ground.data }, { on := 12, ground := Go.Ground.guard }], guard := some (12, true) }) (v := ?vv77) rfl (by kernel_rfl) (by kernel_rfl) (by kernel_rfl) (fun _ _ _ h => h) (Or.inl ⟨by rfl, ?hy77⟩) (by assumption) ?tk77
                      case hy77 => (intro w hSw; (try dsimp only at hSw); go_simp; (try with_reducible rfl))
                      try simp only [Act.put, List.setIfInBounds_toArray, List.set_cons_zero, List.set_cons_succ]
                      refine wpAnyH_take (i := 16) (oi := { dst := some 105, op := Go.Op.fieldAddr 43 (Go.Operand.tmp 8) 2, type := 0, pos := _, after := #[{ on := 12, ground := Go.Ground.guard }], guard := some (12, true) }) (v := ?vv78) rfl (by kernel_rfl) (by kernel_rfl) (by kernel_rfl) (fun _ _ _ h => h) (Or.inl ⟨by rfl, ?hy78⟩) (by assumption) ?tk78
                      case hy78 => (intro w hSw; (try dsimp only at hSw); go_simp; (try with_reducible rfl))
                      try simp only [Act.put, List.setIfInBounds_toArray, List.set_cons_zero, List.set_cons_succ]
                      refine wpAnyH_take (i := 17) (oi := { dst := some 106, op := Go.Op.load 35 (Go.Operand.tmp 105), type := 35, pos := _, after := #[{ on := 16, ground := Go.Ground.data }, { on := 12, ground := Go.Ground.guard }], guard := some (12, true) }) (v := ?vv79) rfl (by kernel_rfl) (by kernel_rfl) (by kernel_rfl) (fun _ _ _ h => h) (Or.inl ⟨by rfl, ?hy79⟩) (by assumption) ?tk79
                      case hy79 => (intro w hSw; (try dsimp only at hSw); go_simp; (try with_reducible rfl))
                      try simp only [Act.put, List.setIfInBounds_toArray, List.set_cons_zero, List.set_cons_succ]
                      refine wpAnyH_take (i := 18) (oi := { dst := some 107, op := Go.Op.indexAddr 74 (Go.Operand.tmp 4) (Go.Operand.tmp 106), type := 0, pos := _, after := #[{ on := 17, ground := Go.Ground.data }, { on := 12, ground := Go.Ground.guard }], guard := some (12, true) }) (v := ?vv80) rfl (by kernel_rfl) (by kernel_rfl) (by kernel_rfl) (fun _ _ _ h => h) (Or.inl ⟨by rfl, ?hy80⟩) (by assumption) ?tk80
                      case hy80 => (intro w hSw; (try dsimp only at hSw); go_simp; (try with_reducible rfl))
                      try simp only [Act.put, List.setIfInBounds_toArray, List.set_cons_zero, List.set_cons_succ]
                      refine wpAnyH_take (i := 19) (oi := { dst := some 108, op := Go.Op.load 3 (Go.Operand.tmp 107), type := 3, pos := _, after := #[{ on := 18, ground := Go.Ground.data }, { on := 12, ground := Go.Ground.guard }], guard := some (12, true) }) (v := ?vv81) rfl (by kernel_rfl) (by kernel_rfl) (by kernel_rfl) (fun _ _ _ h => h) (Or.inl ⟨by rfl, ?hy81⟩) (by assumption) ?tk81
                      case hy81 => (intro w hSw; (try dsimp only at hSw); go_simp; (try with_reducible rfl))
                      try simp only [Act.put, List.setIfInBounds_toArray, List.set_cons_zero, List.set_cons_succ]
                      refine wpAnyH_take (i := 20) (oi := { dst := some 109, op := Go.Op.binOp Go.BinOp.lss 3 (Go.Operand.tmp 104) (Go.Operand.tmp 108) 3, type := 4, pos := _, after := #[{ on := 15, ground := Go.Ground.data }, { on := 19, ground := Go.Ground.data }, { on := 12, ground := Go.Ground.guard }], guard := some (12, true) }) (v := ?vv82) rfl (by kernel_rfl) (by kernel_rfl) (by kernel_rfl) (fun _ _ _ h => h) (Or.inl ⟨by rfl, ?hy82⟩) (by assumption) ?tk82
                      case hy82 => (intro w hSw; (try dsimp only at hSw); go_simp; (try with_reducible rfl))
                      try simp only [Act.put, List.setIfInBounds_toArray, List.set_cons_zero, List.set_cons_succ]
                      refine wpAnyH_take (i := 21) (oi := { dst := some 110, op := Go.Op.pick (Go.Operand.tmp 101) (Go.Operand.tmp 109) (Go.Operand.const (Go.Value.bool false)), type := 4, pos := _, after := #[{ on := 12, ground := Go.Ground.data }, { on := 20, ground := Go.Ground.data }, { on := 8, ground := Go.Ground.guard }], guard := some (8, false) }) (v := ?vv83) rfl (by kernel_rfl) (by kernel_rfl) (by kernel_rfl) (fun _ _ _ h => h) (Or.inl ⟨by rfl, ?hy83⟩) (by assumption) ?tk83
                      case hy83 => (intro w hSw; (try dsimp only at hSw); go_simp; (try with_reducible rfl))
                      try simp only [Act.put, List.setIfInBounds_toArray, List.set_cons_zero, List.set_cons_succ]
                      refine wpAnyH_take (i := 22) (oi := { dst := some 111, op := Go.Op.pick (Go.Operand.tmp 97) (Go.Operand.const (Go.Value.bool true)) (Go.Operand.tmp 110), type := 4, pos := _, after := #[{ on := 8, ground := Go.Ground.data }, { on := 21, ground := Go.Ground.data }, { on := 4, ground := Go.Ground.guard }], guard := some (4, true) }) (v := ?vv84) rfl (by kernel_rfl) (by kernel_rfl) (by kernel_rfl) (fun _ _ _ h => h) (Or.inl ⟨by rfl, ?hy84⟩) (by assumption) ?tk84
                      case hy84 => (intro w hSw; (try dsimp only at hSw); go_simp; (try with_reducible rfl))
                      try simp only [Act.put, List.setIfInBounds_toArray, List.set_cons_zero, List.set_cons_succ]
                      refine wpAnyH_take (i := 23) (oi := { dst := some 112, op := Go.Op.pick (Go.Operand.tmp 93) (Go.Operand.tmp 111) (Go.Operand.const (Go.Value.bool false)), type := 4, pos := _, after := #[{ on := 4, ground := Go.Ground.data }, { on := 22, ground := Go.Ground.data }], guard := none }) (v := ?vv85) rfl (by kernel_rfl) (by kernel_rfl) (by kernel_rfl) (fun _ _ _ h => h) (Or.inl ⟨by rfl, ?hy85⟩) (by assumption) ?tk85
                      case hy85 => (intro w hSw; (try dsimp only at hSw); go_simp; (try with_reducible rfl))
                      try simp only [Act.put, List.setIfInBounds_toArray, List.set_cons_zero, List.set_cons_succ]
                      refine wpAnyH_done (by kernel_rfl) ?_ _
                      go_wp2
                      go_roundg ((rivL σ.s Q x).length - (j + 1))
                      case measure => omega
                      case rel => exact ⟨j + 1, by omega, by go_num, LK1.drew.drew, RG1.blk rfl, HGC⟩
                    · have e2 : (bu == bt) = false := by simpa using hq
                      clear hcmp h1 h2 hq hne
                      refine wp_region_held_drew (S := (fun w' => w'.cell? ⟨b8, 2, none⟩ = some (.int .i64 (X : Int)) ∧ w'.cell? ⟨b4, u, none⟩ = some (.int .i64 eu) ∧ w'.cell? ⟨b4, X, none⟩ = some (.int .i64 et))) (by kernel_rfl) ⟨z1, z3, z4⟩ (fun hHeld => ?_)
                      refine wpAnyH_take (i := 0) (oi := { dst := some 89, op := Go.Op.move (Go.Operand.tmp 14), type := 35, pos := _, after := #[], guard := none }) (v := ?vv38) rfl (by kernel_rfl) (by kernel_rfl) (by kernel_rfl) (fun _ _ _ h => h) (Or.inl ⟨by rfl, ?hy38⟩) (by assumption) ?tk38
                      case hy38 => (intro w hSw; (try dsimp only at hSw); go_simp; (try with_reducible rfl))
                      try simp only [Act.put, List.setIfInBounds_toArray, List.set_cons_zero, List.set_cons_succ]
                      refine wpAnyH_take (i := 1) (oi := { dst := some 90, op := Go.Op.fieldAddr 43 (Go.Operand.tmp 8) 2, type := 0, pos := _, after := #[], guard := none }) (v := ?vv39) rfl (by kernel_rfl) (by kernel_rfl) (by kernel_rfl) (fun _ _ _ h => h) (Or.inl ⟨by rfl, ?hy39⟩) (by assumption) ?tk39
                      case hy39 => (intro w hSw; (try dsimp only at hSw); go_simp; (try with_reducible rfl))
                      try simp only [Act.put, List.setIfInBounds_toArray, List.set_cons_zero, List.set_cons_succ]
                      refine wpAnyH_take (i := 2) (oi := { dst := some 91, op := Go.Op.load 35 (Go.Operand.tmp 90), type := 35, pos := _, after := #[{ on := 1, ground := Go.Ground.data }], guard := none }) (v := ?vv40) rfl (by kernel_rfl) (by kernel_rfl) (by kernel_rfl) (fun _ _ _ h => h) (Or.inl ⟨by rfl, ?hy40⟩) (by assumption) ?tk40
                      case hy40 => (intro w hSw; (try dsimp only at hSw); go_simp; (try with_reducible rfl))
                      try simp only [Act.put, List.setIfInBounds_toArray, List.set_cons_zero, List.set_cons_succ]
                      refine wpAnyH_take (i := 3) (oi := { dst := some 92, op := Go.Op.binOp Go.BinOp.neq 35 (Go.Operand.tmp 89) (Go.Operand.tmp 91) 35, type := 4, pos := _, after := #[{ on := 0, ground := Go.Ground.data }, { on := 2, ground := Go.Ground.data }], guard := none }) (v := ?vv41) rfl (by kernel_rfl) (by kernel_rfl) (by kernel_rfl) (fun _ _ _ h => h) (Or.inl ⟨by rfl, ?hy41⟩) (by assumption) ?tk41
                      case hy41 => (intro w hSw; (try dsimp only at hSw); go_simp; (try with_reducible rfl))
                      try simp only [Act.put, List.setIfInBounds_toArray, List.set_cons_zero, List.set_cons_succ]
                      refine wpAnyH_take (i := 4) (oi := { dst := some 93, op := Go.Op.move (Go.Operand.tmp 92), type := 4, pos := _, after := #[{ on := 3, ground := Go.Ground.data }], guard := none }) (v := ?vv42) rfl (by kernel_rfl) (by kernel_rfl) (by kernel_rfl) (fun _ _ _ h => h) (Or.inl ⟨by rfl, ?hy42⟩) (by assumption) ?tk42
                      case hy42 => (intro w hSw; (try dsimp only at hSw); go_simp; (try with_reducible rfl))
                      try simp only [Act.put, List.setIfInBounds_toArray, List.set_cons_zero, List.set_cons_succ]
                      refine wpAnyH_take (i := 5) (oi := { dst := some 94, op := Go.Op.move (Go.Operand.tmp 15), type := 3, pos := _, after := #[{ on := 4, ground := Go.Ground.guard }], guard := some (4, true) }) (v := ?vv43) rfl (by kernel_rfl) (by kernel_rfl) (by kernel_rfl) (fun _ _ _ h => h) (Or.inl ⟨by rfl, ?hy43⟩) (by assumption) ?tk43
                      case hy43 => (intro w hSw; (try dsimp only at hSw); go_simp; (try with_reducible rfl))
                      try simp only [Act.put, List.setIfInBounds_toArray, List.set_cons_zero, List.set_cons_succ]
                      refine wpAnyH_take (i := 6) (oi := { dst := some 95, op := Go.Op.move (Go.Operand.tmp 16), type := 3, pos := _, after := #[{ on := 4, ground := Go.Ground.guard }], guard := some (4, true) }) (v := ?vv44) rfl (by kernel_rfl) (by kernel_rfl) (by kernel_rfl) (fun _ _ _ h => h) (Or.inl ⟨by rfl, ?hy44⟩) (by assumption) ?tk44
                      case hy44 => (intro w hSw; (try dsimp only at hSw); go_simp; (try with_reducible rfl))
                      try simp only [Act.put, List.setIfInBounds_toArray, List.set_cons_zero, List.set_cons_succ]
                      refine wpAnyH_take (i := 7) (oi := { dst := some 96, op := Go.Op.binOp Go.BinOp.lss 3 (Go.Operand.tmp 94) (Go.Operand.tmp 95) 3, type := 4, pos := _, after := #[{ on := 5, ground := Go.Ground.data }, { on := 6, ground := Go.Ground.data }, { on := 4, ground := Go.Ground.guard }], guard := some (4, true) }) (v := ?vv45) rfl (by kernel_rfl) (by kernel_rfl) (by kernel_rfl) (fun _ _ _ h => h) (Or.inl ⟨by rfl, ?hy45⟩) (by assumption) ?tk45
                      case hy45 => (intro w hSw; (try dsimp only at hSw); go_simp; (try with_reducible rfl))
                      try simp only [Act.put, List.setIfInBounds_toArray, List.set_cons_zero, List.set_cons_succ]
                      refine wpAnyH_take (i := 8) (oi := { dst := some 97, op := Go.Op.move (Go.Operand.tmp 96), type := 4, pos := _, after := #[{ on := 7, ground := Go.Ground.data }, { on := 4, ground := Go.Ground.chain }, { on := 4, ground := Go.Ground.guard }], guard := some (4, true) }) (v := ?vv46) rfl (by kernel_rfl) (by kernel_rfl) (by kernel_rfl) (fun _ _ _ h => h) (Or.inl ⟨by rfl, ?hy46⟩) (by assumption) ?tk46
                      case hy46 => (intro w hSw; (try dsimp only at hSw); go_simp; (try with_reducible rfl))
                      try simp only [Act.put, List.setIfInBounds_toArray, List.set_cons_zero, List.set_cons_succ]
                      refine wpAnyH_take (i := 9) (oi := { dst := some 98, op := Go.Op.move (Go.Operand.tmp 15), type := 3, pos := _, after := #[{ on := 8, ground := Go.Ground.guard }], guard := some (8, false) }) (v := ?vv47) rfl (by kernel_rfl) (by kernel_rfl) (by kernel_rfl) (fun _ _ _ h => h) (Or.inl ⟨by rfl, ?hy47⟩) (by assumption) ?tk47
                      case hy47 => (intro w hSw; (try dsimp only at hSw); go_simp; (try with_reducible rfl))
                      try simp only [Act.put, List.setIfInBounds_toArray, List.set_cons_zero, List.set_cons_succ]
                      refine wpAnyH_take (i := 10) (oi := { dst := some 99, op := Go.Op.move (Go.Operand.tmp 16), type := 3, pos := _, after := #[{ on := 8, ground := Go.Ground.guard }], guard := some (8, false) }) (v := ?vv48) rfl (by kernel_rfl) (by kernel_rfl) (by kernel_rfl) (fun _ _ _ h => h) (Or.inl ⟨by rfl, ?hy48⟩) (by assumption) ?tk48
                      case hy48 => (intro w hSw; (try dsimp only at hSw); go_simp; (try with_reducible rfl))
                      try simp only [Act.put, List.setIfInBounds_toArray, List.set_cons_zero, List.set_cons_succ]
                      refine wpAnyH_take (i := 11) (oi := { dst := some 100, op := Go.Op.binOp Go.BinOp.eql 3 (Go.Operand.tmp 98) (Go.Operand.tmp 99) 3, type := 4, pos := _, after := #[{ on := 9, ground := Go.Ground.data }, { on := 10, ground := Go.Ground.data }, { on := 8, ground := Go.Ground.guard }], guard := some (8, false) }) (v := ?vv49) rfl (by kernel_rfl) (by kernel_rfl) (by kernel_rfl) (fun _ _ _ h => h) (Or.inl ⟨by rfl, ?hy49⟩) (by assumption) ?tk49
                      case hy49 => (intro w hSw; (try dsimp only at hSw); go_simp; (try with_reducible rfl))
                      try simp only [Act.put, List.setIfInBounds_toArray, List.set_cons_zero, List.set_cons_succ]
                      refine wpAnyH_take (i := 12) (oi := { dst := some 101, op := Go.Op.move (Go.Operand.tmp 100), type := 4, pos := _, after := #[{ on := 11, ground := Go.Ground.data }, { on := 8, ground := Go.Ground.chain }, { on := 8, ground := Go.Ground.guard }], guard := some (8, false) }) (v := ?vv50) rfl (by kernel_rfl) (by kernel_rfl) (by kernel_rfl) (fun _ _ _ h => h) (Or.inl ⟨by rfl, ?hy50⟩) (by assumption) ?tk50
                      case hy50 => (intro w hSw; (try dsimp only at hSw); go_simp; (try with_reducible rfl))
                      try simp only [Act.put, List.setIfInBounds_toArray, List.set_cons_zero, List.set_cons_succ]
                      refine wpAnyH_take (i := 13) (oi := { dst := some 102, op := Go.Op.move (Go.Operand.tmp 14), type := 35, pos := _, after := #[{ on := 12, ground := Go.Ground.guard }], guard := some (12, true) }) (v := undef) rfl (by kernel_rfl) (by kernel_rfl) (by kernel_rfl) (fun _ _ _ h => h) (Or.inr ⟨by rfl, rfl⟩) (by assumption) ?tk51
                      try simp only [Act.put, List.setIfInBounds_toArray, List.set_cons_zero, List.set_cons_succ]
                      refine wpAnyH_take (i := 14) (oi := { dst := some 103, op := Go.Op.indexAddr 74 (Go.Operand.tmp 4) (Go.Operand.tmp 102), type := 0, pos := _, after := #[{ on := 13, ground := Go.Ground.data }, { on := 12, ground := Go.Ground.guard }], guard := some (12, true) }) (v := undef) rfl (by kernel_rfl) (by kernel_rfl) (by kernel_rfl) (fun _ _ _ h => h) (Or.inr ⟨by rfl, rfl⟩) (by assumption) ?tk52
                      try simp only [Act.put, List.setIfInBounds_toArray, List.set_cons_zero, List.set_cons_succ]
                      refine wpAnyH_take (i := 15) (oi := { dst := some 104, op := Go.Op.load 3 (Go.Operand.tmp 103), type := 3, pos := _, after := #[{ on := 14, ground := Go.Ground.data }, { on := 12, ground := Go.Ground.guard }], guard := some (12, true) }) (v := undef) rfl (by kernel_rfl) (by kernel_rfl) (by kernel_rfl) (fun _ _ _ h => h) (Or.inr ⟨by rfl, rfl⟩) (by assumption) ?tk53
                      try simp only [Act.put, List.setIfInBounds_toArray, List.set_cons_zero, List.set_cons_succ]
                      refine wpAnyH_take (i := 16) (oi := { dst := some 105, op := Go.Op.fieldAddr 43 (Go.Operand.tmp 8) 2, type := 0, pos := _, after := #[{ on := 12, ground := Go.Ground.guard }], guard := some (12, true) }) (v := undef) rfl (by kernel_rfl) (by kernel_rfl) (by kernel_rfl) (fun _ _ _ h => h) (Or.inr ⟨by rfl, rfl⟩) (by assumption) ?tk54
                      try simp only [Act.put, List.setIfInBounds_toArray, List.set_cons_zero, List.set_cons_succ]
                      refine wpAnyH_take (i := 17) (oi := { dst := some 106, op := Go.Op.load 35 (Go.Operand.tmp 105), type := 35, pos := _, after := #[{ on := 16, ground := Go.Ground.data }, { on := 12, ground := Go.Ground.guard }], guard := some (12, true) }) (v := undef) rfl (by kernel_rfl) (by kernel_rfl) (by kernel_rfl) (fun _ _ _ h => h) (Or.inr ⟨by rfl, rfl⟩) (by assumption) ?tk55
                      try simp only [Act.put, List.setIfInBounds_toArray, List.set_cons_zero, List.set_cons_succ]
                      refine wpAnyH_take (i := 18) (oi := { dst := some 107, op := Go.Op.indexAddr 74 (Go.Operand.tmp 4) (Go.Operand.tmp 106), type := 0, pos := _, after := #[{ on := 17, ground := Go.Ground.data }, { on := 12, ground := Go.Ground.guard }], guard := some (12, true) }) (v := undef) rfl (by kernel_rfl) (by kernel_rfl) (by kernel_rfl) (fun _ _ _ h => h) (Or.inr ⟨by rfl, rfl⟩) (by assumption) ?tk56
                      try simp only [Act.put, List.setIfInBounds_toArray, List.set_cons_zero, List.set_cons_succ]
                      refine wpAnyH_take (i := 19) (oi := { dst := some 108, op := Go.Op.load 3 (Go.Operand.tmp 107), type := 3, pos := _, after := #[{ on := 18, ground := Go.Ground.data }, { on := 12, ground := Go.Ground.guard }], guard := some (12, true) }) (v := undef) rfl (by kernel_rfl) (by kernel_rfl) (by kernel_rfl) (fun _ _ _ h => h) (Or.inr ⟨by rfl, rfl⟩) (by assumption) ?tk57
                      try simp only [Act.put, List.setIfInBounds_toArray, List.set_cons_zero, List.set_cons_succ]
                      refine wpAnyH_take (i := 20) (oi := { dst := some 109, op := Go.Op.binOp Go.BinOp.lss 3 (Go.Operand.tmp 104) (Go.Operand.tmp 108) 3, type := 4, pos := _, after := #[{ on := 15, ground := Go.Ground.data }, { on := 19, ground := Go.Ground.data }, { on := 12, ground := Go.Ground.guard }], guard := some (12, true) }) (v := undef) rfl (by kernel_rfl) (by kernel_rfl) (by kernel_rfl) (fun _ _ _ h => h) (Or.inr ⟨by rfl, rfl⟩) (by assumption) ?tk58
                      try simp only [Act.put, List.setIfInBounds_toArray, List.set_cons_zero, List.set_cons_succ]
                      refine wpAnyH_take (i := 21) (oi := { dst := some 110, op := Go.Op.pick (Go.Operand.tmp 101) (Go.Operand.tmp 109) (Go.Operand.const (Go.Value.bool false)), type := 4, pos := _, after := #[{ on := 12, ground := Go.Ground.data }, { on := 20, ground := Go.Ground.data }, { on := 8, ground := Go.Ground.guard }], guard := some (8, false) }) (v := ?vv59) rfl (by kernel_rfl) (by kernel_rfl) (by kernel_rfl) (fun _ _ _ h => h) (Or.inl ⟨by rfl, ?hy59⟩) (by assumption) ?tk59
                      case hy59 => (intro w hSw; (try dsimp only at hSw); go_simp; (try with_reducible rfl))
                      try simp only [Act.put, List.setIfInBounds_toArray, List.set_cons_zero, List.set_cons_succ]
                      refine wpAnyH_take (i := 22) (oi := { dst := some 111, op := Go.Op.pick (Go.Operand.tmp 97) (Go.Operand.const (Go.Value.bool true)) (Go.Operand.tmp 110), type := 4, pos := _, after := #[{ on := 8, ground := Go.Ground.data }, { on := 21, ground := Go.Ground.data }, { on := 4, ground := Go.Ground.guard }], guard := some (4, true) }) (v := ?vv60) rfl (by kernel_rfl) (by kernel_rfl) (by kernel_rfl) (fun _ _ _ h => h) (Or.inl ⟨by rfl, ?hy60⟩) (by assumption) ?tk60
                      case hy60 => (intro w hSw; (try dsimp only at hSw); go_simp; (try with_reducible rfl))
                      try simp only [Act.put, List.setIfInBounds_toArray, List.set_cons_zero, List.set_cons_succ]
                      refine wpAnyH_take (i := 23) (oi := { dst := some 112, op := Go.Op.pick (Go.Operand.tmp 93) (Go.Operand.tmp 111) (Go.Operand.const (Go.Value.bool false)), type := 4, pos := _, after := #[{ on := 4, ground := Go.Ground.data }, { on := 22, ground := Go.Ground.data }], guard := none }) (v := ?vv61) rfl (by kernel_rfl) (by kernel_rfl) (by kernel_rfl) (fun _ _ _ h => h) (Or.inl ⟨by rfl, ?hy61⟩) (by assumption) ?tk61
                      case hy61 => (intro w hSw; (try dsimp only at hSw); go_simp; (try with_reducible rfl))
                      try simp only [Act.put, List.setIfInBounds_toArray, List.set_cons_zero, List.set_cons_succ]
                      refine wpAnyH_done (by kernel_rfl) ?_ _
                      go_wp2
                      go_roundg ((rivL σ.s Q x).length - (j + 1))
                      case measure => omega
                      case rel => exact ⟨j + 1, by omega, by go_num, LK1.drew.drew, RG1.blk rfl, HGC⟩
                · have e : j = (rivL σ.s Q x).length := by omega
                  subst e
                  go_wp2
                  go_meet
                  case rel => exact ⟨_, LK1, HJ⟩
            · rw [decide_eq_false hpk]
              have HJ : Hid ((∃ Q', SInv σ'.s Q' 16 ∧ WOrd Q' (joinF σ.s σ'.s i η)) ∧ ∀ y, y < 16 → η y ≤ i + 1) := hideIt (by
                obtain ⟨Q, I, WO⟩ := HH.out.od
                have le := HH.out.le
                refine ⟨?_, fun y hy => by have := le y hy; omega⟩
                rcases HSC.out with ⟨h1, h2, _⟩ | ⟨_, h | h⟩
                · exact absurd ⟨h1, h2⟩ hpk
                · rw [h]; exact ⟨Q, I, (Mv.refl I).join I WO le⟩
                · rw [h]
                  obtain ⟨y, Q', mv⟩ := mv_task I o
                  exact ⟨Q', mv.inv, mv.join I WO le⟩)
              clear hpk
              go_wp2
              go_meet
              case rel => exact ⟨η, LK0, HJ⟩
          case rest =>
          clear LK0 RG OP HSC
          obtain ⟨η1, LK1, HJ⟩ := hcut
          go_wp2_with fail
          go_loopg [114] 16 (fun gg v wr => ∃ j : Nat, j + gg = 16 ∧ v = .int .i64 (j : Int) ∧ LK w wr B mb t' (4 * i + 4) ν' τ' σ' b4 b5 base b9 base9 S S9 cs (partJ σ.s σ'.s i η1 j))
          case atStart => exact ⟨0, by omega, rfl, LK1.same (fun y _ => partJ_zero _ _ _ _ _)⟩
          case round =>
            clear LK1
            obtain ⟨j, hjg, rfl, LK1⟩ := hrel
            by_cases hj : j < 16
            · have j0 : (0 : Int) ≤ j := by omega
              have j1 : (j : Int) < 16 := by omega
              obtain ⟨y1, y2, y3⟩ := LK1.s9.task hj
              obtain ⟨y4, y5, y6⟩ := LK1.st.task hj
              have fz := LK1.hh.fz
              have hc4 := LK1.hh.cell j hj
              have hwi : IntKind.i64.wrap ((i : Int) + 1) = (i : Int) + 1 := by rw [IntKind.wrap_i64]; omega
              have HLK : Hid (∀ (h2 : (S9.tk j).1 = 2), (!decide ((S9.tk j).1 = (S.tk j).1 ∧ (S9.tk j).2.1 = (S.tk j).2.1 ∧ (S9.tk j).2.2 = (S.tk j).2.2)) = true ↔ r3 σ'.s j ≠ r3 σ.s j) := hideIt (fun h2 => by
                obtain ⟨Q, I, _⟩ := HH.out.od
                obtain ⟨⟨Q', I', _⟩, _⟩ := HJ.out
                obtain ⟨_, _, e1⟩ := snap_sched HH.out.so I
                obtain ⟨_, _, e2⟩ := snap_sched HSO.out.1 I'
                rw [e1 j, e2 j]
                rw [e2 j] at h2
                exact look_eq I I' hj h2)
              have HST : Hid ((S9.tk j).1 = (σ'.s.tk j).st) := hideIt (by
                obtain ⟨⟨Q', I', _⟩, _⟩ := HJ.out
                obtain ⟨_, _, e2⟩ := snap_sched HSO.out.1 I'
                rw [e2 j])
              have q48 := task_neq (S9.tk j).1 (S9.tk j).2.1 (S9.tk j).2.2 (S.tk j).1 (S.tk j).2.1 (S.tk j).2.2
              have hax : ∃ a1 a2 a3 c1 c2 c3 : Int, a1 = (S9.tk j).1 ∧ a2 = (S9.tk j).2.1 ∧ a3 = (S9.tk j).2.2 ∧ c1 = (S.tk j).1 ∧ c2 = (S.tk j).2.1 ∧ c3 = (S.tk j).2.2 := ⟨_, _, _, _, _, _, rfl, rfl, rfl, rfl, rfl, rfl⟩
              obtain ⟨a1, a2, a3, c1, c2, c3, f1, f2, f3, f4, f5, f6⟩ := hax
              rw [← f1, ← f2, ← f3] at HLK
              rw [← f4, ← f5, ← f6] at HLK
              rw [← f1] at y1 HST
              rw [← f2] at y2
              rw [← f3] at y3
              rw [← f4] at y4
              rw [← f5] at y5
              rw [← f6] at y6
              rw [← f1, ← f2, ← f3, ← f4, ← f5, ← f6] at q48
              clear f1 f2 f3 f4 f5 f6
              have g48 := guard48
              go_upto_region 30 with fail
              by_cases h2 : a1 = 2
              · have hlk := HLK.out h2
                have hst : (σ'.s.tk j).st = 2 := HST.out.symm.trans h2
                have e1 : (a1 == 2) = true := by simp [h2]
                have hdx : ∃ dd : Bool, dd = !decide (a1 = c1 ∧ a2 = c2 ∧ a3 = c3) := ⟨_, rfl⟩
                obtain ⟨dd, hdd⟩ := hdx
                rw [← hdd] at q48 hlk
                have HDD := hideIt (And.intro hlk hst)
                clear hdd hlk hst h2
                refine wp_region_held_drew (S := (fun w' => w'.cell? ⟨b9, 1 + j * 3, none⟩ = some (.int .u8 a1) ∧ w'.cell? ⟨b9, 1 + j * 3 + 1, none⟩ = some (.int .i64 a2) ∧ w'.cell? ⟨b9, 1 + j * 3 + 2, none⟩ = some (.int .i64 a3) ∧ w'.cell? ⟨b5, 1 + j * 3, none⟩ = some (.int .u8 c1) ∧ w'.cell? ⟨b5, 1 + j * 3 + 1, none⟩ = some (.int .i64 c2) ∧ w'.cell? ⟨b5, 1 + j * 3 + 2, none⟩ = some (.int .i64 c3))) (by kernel_rfl) ⟨y1, y2, y3, y4, y5, y6⟩ (fun hHeld => ?_)
                refine wpAnyH_take (i := 0) (oi := { dst := some 117, op := Go.Op.move (Go.Operand.tmp 17), type := 3, pos := _, after := #[], guard := none }) (v := ?vv103) rfl (by kernel_rfl) (by kernel_rfl) (by kernel_rfl) (fun _ _ _ h => h) (Or.inl ⟨by rfl, ?hy103⟩) (by assumption) ?tk103
                case hy103 => (intro w hSw; (try dsimp only at hSw); go_simp; (try with_reducible rfl))
                try simp only [Act.put, List.setIfInBounds_toArray, List.set_cons_zero, List.set_cons_succ]
                refine wpAnyH_take (i := 1) (oi := { dst := some 118, op := Go.Op.fieldAddr 61 (Go.Operand.tmp 9) 1, type := 0, pos := _, after := #[], guard := none }) (v := ?vv104) rfl (by kernel_rfl) (by kernel_rfl) (by kernel_rfl) (fun _ _ _ h => h) (Or.inl ⟨by rfl, ?hy104⟩) (by assumption) ?tk104
                case hy104 => (intro w hSw; (try dsimp only at hSw); go_simp; (try with_reducible rfl))
                try simp only [Act.put, List.setIfInBounds_toArray, List.set_cons_zero, List.set_cons_succ]
                refine wpAnyH_take (i := 2) (oi := { dst := some 119, op := Go.Op.indexAddr 49 (Go.Operand.tmp 118) (Go.Operand.tmp 117), type := 0, pos := _, after := #[{ on := 1, ground := Go.Ground.data }, { on := 0, ground := Go.Ground.data }], guard := none }) (v := ?vv105) rfl (by kernel_rfl) (by kernel_rfl) (by kernel_rfl) (fun _ _ _ h => h) (Or.inl ⟨by rfl, ?hy105⟩) (by assumption) ?tk105
                case hy105 => (intro w hSw; (try dsimp only at hSw); go_simp; (try with_reducible rfl))
                try simp only [Act.put, List.setIfInBounds_toArray, List.set_cons_zero, List.set_cons_succ]
                refine wpAnyH_take (i := 3) (oi := { dst := some 120, op := Go.Op.fieldAddr 48 (Go.Operand.tmp 119) 0, type := 0, pos := _, after := #[{ on := 2, ground := Go.Ground.data }], guard := none }) (v := ?vv106) rfl (by kernel_rfl) (by kernel_rfl) (by kernel_rfl) (fun _ _ _ h => h) (Or.inl ⟨by rfl, ?hy106⟩) (by assumption) ?tk106
                case hy106 => (intro w hSw; (try dsimp only at hSw); go_simp; (try with_reducible rfl))
                try simp only [Act.put, List.setIfInBounds_toArray, List.set_cons_zero, List.set_cons_succ]
                refine wpAnyH_take (i := 4) (oi := { dst := some 121, op := Go.Op.load 46 (Go.Operand.tmp 120), type := 46, pos := _, after := #[{ on := 3, ground := Go.Ground.data }], guard := none }) (v := ?vv107) rfl (by kernel_rfl) (by kernel_rfl) (by kernel_rfl) (fun _ _ _ h => h) (Or.inl ⟨by rfl, ?hy107⟩) (by assumption) ?tk107
                case hy107 => (intro w hSw; (try dsimp only at hSw); go_simp; (try with_reducible rfl))
                try simp only [Act.put, List.setIfInBounds_toArray, List.set_cons_zero, List.set_cons_succ]
                refine wpAnyH_take (i := 5) (oi := { dst := some 122, op := Go.Op.binOp Go.BinOp.eql 46 (Go.Operand.tmp 121) (Go.Operand.const (Go.Value.int Go.IntKind.u8 2)) 46, type := 4, pos := _, after := #[{ on := 4, ground := Go.Ground.data }], guard := none }) (v := ?vv108) rfl (by kernel_rfl) (by kernel_rfl) (by kernel_rfl) (fun _ _ _ h => h) (Or.inl ⟨by rfl, ?hy108⟩) (by assumption) ?tk108
                case hy108 => (intro w hSw; (try dsimp only at hSw); go_simp; (try with_reducible rfl))
                try simp only [Act.put, List.setIfInBounds_toArray, List.set_cons_zero, List.set_cons_succ]
                refine wpAnyH_take (i := 6) (oi := { dst := some 123, op := Go.Op.move (Go.Operand.tmp 122), type := 4, pos := _, after := #[{ on := 5, ground := Go.Ground.data }], guard := none }) (v := ?vv109) rfl (by kernel_rfl) (by kernel_rfl) (by kernel_rfl) (fun _ _ _ h => h) (Or.inl ⟨by rfl, ?hy109⟩) (by assumption) ?tk109
                case hy109 => (intro w hSw; (try dsimp only at hSw); go_simp; (try with_reducible rfl))
                try simp only [Act.put, List.setIfInBounds_toArray, List.set_cons_zero, List.set_cons_succ]
                refine wpAnyH_take (i := 7) (oi := { dst := some 124, op := Go.Op.move (Go.Operand.tmp 17), type := 3, pos := _, after := #[{ on := 6, ground := Go.Ground.guard }], guard := some (6, true) }) (v := ?vv110) rfl (by kernel_rfl) (by kernel_rfl) (by kernel_rfl) (fun _ _ _ h => h) (Or.inl ⟨by rfl, ?hy110⟩) (by assumption) ?tk110
                case hy110 => (intro w hSw; (try dsimp only at hSw); go_simp; (try with_reducible rfl))
                try simp only [Act.put, List.setIfInBounds_toArray, List.set_cons_zero, List.set_cons_succ]
                refine wpAnyH_take (i := 8) (oi := { dst := some 125, op := Go.Op.fieldAddr 61 (Go.Operand.tmp 9) 1, type := 0, pos := _, after := #[{ on := 6, ground := Go.Ground.guard }], guard := some (6, true) }) (v := ?vv111) rfl (by kernel_rfl) (by kernel_rfl) (by kernel_rfl) (fun _ _ _ h => h) (Or.inl ⟨by rfl, ?hy111⟩) (by assumption) ?tk111
                case hy111 => (intro w hSw; (try dsimp only at hSw); go_simp; (try with_reducible rfl))
                try simp only [Act.put, List.setIfInBounds_toArray, List.set_cons_zero, List.set_cons_succ]
                refine wpAnyH_take (i := 9) (oi := { dst := some 126, op := Go.Op.indexAddr 49 (Go.Operand.tmp 125) (Go.Operand.tmp 124), type := 0, pos := _, after := #[{ on := 8, ground := Go.Ground.data }, { on := 7, ground := Go.Ground.data }, { on := 6, ground := Go.Ground.guard }], guard := some (6, true) }) (v := ?vv112) rfl (by kernel_rfl) (by kernel_rfl) (by kernel_rfl) (fun _ _ _ h => h) (Or.inl ⟨by rfl, ?hy112⟩) (by assumption) ?tk112
                case hy112 => (intro w hSw; (try dsimp only at hSw); go_simp; (try with_reducible rfl))
                try simp only [Act.put, List.setIfInBounds_toArray, List.set_cons_zero, List.set_cons_succ]
                refine wpAnyH_take (i := 10) (oi := { dst := some 127, op := Go.Op.load 48 (Go.Operand.tmp 126), type := 48, pos := _, after := #[{ on := 9, ground := Go.Ground.data }, { on := 6, ground := Go.Ground.guard }], guard := some (6, true) }) (v := ?vv113) rfl (by kernel_rfl) (by kernel_rfl) (by kernel_rfl) (fun _ _ _ h => h) (Or.inl ⟨by rfl, ?hy113⟩) (by assumption) ?tk113
                case hy113 => (intro w hSw; (try dsimp only at hSw); go_simp; (try with_reducible rfl))
                try simp only [Act.put, List.setIfInBounds_toArray, List.set_cons_zero, List.set_cons_succ]
                refine wpAnyH_take (i := 11) (oi := { dst := some 128, op := Go.Op.move (Go.Operand.tmp 17), type := 3, pos := _, after := #[{ on := 6, ground := Go.Ground.guard }], guard := some (6, true) }) (v := ?vv114) rfl (by kernel_rfl) (by kernel_rfl) (by kernel_rfl) (fun _ _ _ h => h) (Or.inl ⟨by rfl, ?hy114⟩) (by assumption) ?tk114
                case hy114 => (intro w hSw; (try dsimp only at hSw); go_simp; (try with_reducible rfl))
                try simp only [Act.put, List.setIfInBounds_toArray, List.set_cons_zero, List.set_cons_succ]
                refine wpAnyH_take (i := 12) (oi := { dst := some 129, op := Go.Op.fieldAddr 61 (Go.Operand.tmp 5) 1, type := 0, pos := _, after := #[{ on := 6, ground := Go.Ground.guard }], guard := some (6, true) }) (v := ?vv115) rfl (by kernel_rfl) (by kernel_rfl) (by kernel_rfl) (fun _ _ _ h => h) (Or.inl ⟨by rfl, ?hy115⟩) (by assumption) ?tk115
                case hy115 => (intro w hSw; (try dsimp only at hSw); go_simp; (try with_reducible rfl))
                try simp only [Act.put, List.setIfInBounds_toArray, List.set_cons_zero, List.set_cons_succ]
                refine wpAnyH_take (i := 13) (oi := { dst := some 130, op := Go.Op.indexAddr 49 (Go.Operand.tmp 129) (Go.Operand.tmp 128), type := 0, pos := _, after := #[{ on := 12, ground := Go.Ground.data }, { on := 11, ground := Go.Ground.data }, { on := 6, ground := Go.Ground.guard }], guard := some (6, true) }) (v := ?vv116) rfl (by kernel_rfl) (by kernel_rfl) (by kernel_rfl) (fun _ _ _ h => h) (Or.inl ⟨by rfl, ?hy116⟩) (by assumption) ?tk116
                case hy116 => (intro w hSw; (try dsimp only at hSw); go_simp; (try with_reducible rfl))
                try simp only [Act.put, List.setIfInBounds_toArray, List.set_cons_zero, List.set_cons_succ]
                refine wpAnyH_take (i := 14) (oi := { dst := some 131, op := Go.Op.load 48 (Go.Operand.tmp 130), type := 48, pos := _, after := #[{ on := 13, ground := Go.Ground.data }, { on := 6, ground := Go.Ground.guard }], guard := some (6, true) }) (v := ?vv117) rfl (by kernel_rfl) (by kernel_rfl) (by kernel_rfl) (fun _ _ _ h => h) (Or.inl ⟨by rfl, ?hy117⟩) (by assumption) ?tk117
                case hy117 => (intro w hSw; (try dsimp only at hSw); go_simp; (try with_reducible rfl))
                try simp only [Act.put, List.setIfInBounds_toArray, List.set_cons_zero, List.set_cons_succ]
                refine wpAnyH_take (i := 15) (oi := { dst := some 132, op := Go.Op.binOp Go.BinOp.neq 48 (Go.Operand.tmp 127) (Go.Operand.tmp 131) 48, type := 4, pos := _, after := #[{ on := 10, ground := Go.Ground.data }, { on := 14, ground := Go.Ground.data }, { on := 6, ground := Go.Ground.guard }], guard := some (6, true) }) (v := ?vv118) rfl (by kernel_rfl) (by kernel_rfl) (by kernel_rfl) (fun _ _ _ h => h) (Or.inl ⟨by rfl, ?hy118⟩) (by assumption) ?tk118
                case hy118 => (intro w hSw; (try dsimp only at hSw); go_simp; (try with_reducible rfl))
                try simp only [Act.put, List.setIfInBounds_toArray, List.set_cons_zero, List.set_cons_succ]
                refine wpAnyH_take (i := 16) (oi := { dst := some 133, op := Go.Op.pick (Go.Operand.tmp 123) (Go.Operand.tmp 132) (Go.Operand.const (Go.Value.bool false)), type := 4, pos := _, after := #[{ on := 6, ground := Go.Ground.data }, { on := 15, ground := Go.Ground.data }], guard := none }) (v := ?vv119) rfl (by kernel_rfl) (by kernel_rfl) (by kernel_rfl) (fun _ _ _ h => h) (Or.inl ⟨by rfl, ?hy119⟩) (by assumption) ?tk119
                case hy119 => (intro w hSw; (try dsimp only at hSw); go_simp; (try with_reducible rfl))
                try simp only [Act.put, List.setIfInBounds_toArray, List.set_cons_zero, List.set_cons_succ]
                refine wpAnyH_done (by kernel_rfl) ?_ _
                cases dd
                · go_wp2
                  go_roundg (16 - (j + 1))
                  case measure => omega
                  case rel =>
                    obtain ⟨hlk, hst⟩ := HDD.out
                    exact ⟨j + 1, by omega, by go_num, LK1.drew.same (fun y _ => partJ_no (fun q => by have := hlk.2 q.2; simp at this) y)⟩
                · go_wp2
                  go_roundg (16 - (j + 1))
                  case measure => omega
                  case rel =>
                    obtain ⟨hlk, hst⟩ := HDD.out
                    exact ⟨j + 1, by omega, by go_num, (LK1.drew.put hj ((i : Int) + 1) HH.out.h0 HH.out.h1 h94).same (fun y _ => partJ_yes ⟨hst, hlk.1 (by simp)⟩ y)⟩
              · have e1 : (a1 == 2) = false := by simpa using h2
                have HN2 : Hid ((σ'.s.tk j).st ≠ 2) := hideIt (fun q => h2 (HST.out.trans q))
                clear h2
                refine wp_region_held_drew (S := (fun w' => w'.cell? ⟨b9, 1 + j * 3, none⟩ = some (.int .u8 a1) ∧ w'.cell? ⟨b9, 1 + j * 3 + 1, none⟩ = some (.int .i64 a2) ∧ w'.cell? ⟨b9, 1 + j * 3 + 2, none⟩ = some (.int .i64 a3) ∧ w'.cell? ⟨b5, 1 + j * 3, none⟩ = some (.int .u8 c1) ∧ w'.cell? ⟨b5, 1 + j * 3 + 1, none⟩ = some (.int .i64 c2) ∧ w'.cell? ⟨b5, 1 + j * 3 + 2, none⟩ = some (.int .i64 c3))) (by kernel_rfl) ⟨y1, y2, y3, y4, y5, y6⟩ (fun hHeld => ?_)
                refine wpAnyH_take (i := 0) (oi := { dst := some 117, op := Go.Op.move (Go.Operand.tmp 17), type := 3, pos := _, after := #[], guard := none }) (v := ?vv86) rfl (by kernel_rfl) (by kernel_rfl) (by kernel_rfl) (fun _ _ _ h => h) (Or.inl ⟨by rfl, ?hy86⟩) (by assumption) ?tk86
                case hy86 => (intro w hSw; (try dsimp only at hSw); go_simp; (try with_reducible rfl))
                try simp only [Act.put, List.setIfInBounds_toArray, List.set_cons_zero, List.set_cons_succ]
                refine wpAnyH_take (i := 1) (oi := { dst := some 118, op := Go.Op.fieldAddr 61 (Go.Operand.tmp 9) 1, type := 0, pos := _, after := #[], guard := none }) (v := ?vv87) rfl (by kernel_rfl) (by kernel_rfl) (by kernel_rfl) (fun _ _ _ h => h) (Or.inl ⟨by rfl, ?hy87⟩) (by assumption) ?tk87
                case hy87 => (intro w hSw; (try dsimp only at hSw); go_simp; (try with_reducible rfl))
                try simp only [Act.put, List.setIfInBounds_toArray, List.set_cons_zero, List.set_cons_succ]
                refine wpAnyH_take (i := 2) (oi := { dst := some 119, op := Go.Op.indexAddr 49 (Go.Operand.tmp 118) (Go.Operand.tmp 117), type := 0, pos := _, after := #[{ on := 1, ground := Go.Ground.data }, { on := 0, ground := Go.Ground.data }], guard := none }) (v := ?vv88) rfl (by kernel_rfl) (by kernel_rfl) (by kernel_rfl) (fun _ _ _ h => h) (Or.inl ⟨by rfl, ?hy88⟩) (by assumption) ?tk88
                case hy88 => (intro w hSw; (try dsimp only at hSw); go_simp; (try with_reducible rfl))
                try simp only [Act.put, List.setIfInBounds_toArray, List.set_cons_zero, List.set_cons_succ]
                refine wpAnyH_take (i := 3) (oi := { dst := some 120, op := Go.Op.fieldAddr 48 (Go.Operand.tmp 119) 0, type := 0, pos := _, after := #[{ on := 2, ground := Go.Ground.data }], guard := none }) (v := ?vv89) rfl (by kernel_rfl) (by kernel_rfl) (by kernel_rfl) (fun _ _ _ h => h) (Or.inl ⟨by rfl, ?hy89⟩) (by assumption) ?tk89
                case hy89 => (intro w hSw; (try dsimp only at hSw); go_simp; (try with_reducible rfl))
                try simp only [Act.put, List.setIfInBounds_toArray, List.set_cons_zero, List.set_cons_succ]
                refine wpAnyH_take (i := 4) (oi := { dst := some 121, op := Go.Op.load 46 (Go.Operand.tmp 120), type := 46, pos := _, after := #[{ on := 3, ground := Go.Ground.data }], guard := none }) (v := ?vv90) rfl (by kernel_rfl) (by kernel_rfl) (by kernel_rfl) (fun _ _ _ h => h) (Or.inl ⟨by rfl, ?hy90⟩) (by assumption) ?tk90
                case hy90 => (intro w hSw; (try dsimp only at hSw); go_simp; (try with_reducible rfl))
                try simp only [Act.put, List.setIfInBounds_toArray, List.set_cons_zero, List.set_cons_succ]
                refine wpAnyH_take (i := 5) (oi := { dst := some 122, op := Go.Op.binOp Go.BinOp.eql 46 (Go.Operand.tmp 121) (Go.Operand.const (Go.Value.int Go.IntKind.u8 2)) 46, type := 4, pos := _, after := #[{ on := 4, ground := Go.Ground.data }], guard := none }) (v := ?vv91) rfl (by kernel_rfl) (by kernel_rfl) (by kernel_rfl) (fun _ _ _ h => h) (Or.inl ⟨by rfl, ?hy91⟩) (by assumption) ?tk91
                case hy91 => (intro w hSw; (try dsimp only at hSw); go_simp; (try with_reducible rfl))
                try simp only [Act.put, List.setIfInBounds_toArray, List.set_cons_zero, List.set_cons_succ]
                refine wpAnyH_take (i := 6) (oi := { dst := some 123, op := Go.Op.move (Go.Operand.tmp 122), type := 4, pos := _, after := #[{ on := 5, ground := Go.Ground.data }], guard := none }) (v := ?vv92) rfl (by kernel_rfl) (by kernel_rfl) (by kernel_rfl) (fun _ _ _ h => h) (Or.inl ⟨by rfl, ?hy92⟩) (by assumption) ?tk92
                case hy92 => (intro w hSw; (try dsimp only at hSw); go_simp; (try with_reducible rfl))
                try simp only [Act.put, List.setIfInBounds_toArray, List.set_cons_zero, List.set_cons_succ]
                refine wpAnyH_take (i := 7) (oi := { dst := some 124, op := Go.Op.move (Go.Operand.tmp 17), type := 3, pos := _, after := #[{ on := 6, ground := Go.Ground.guard }], guard := some (6, true) }) (v := undef) rfl (by kernel_rfl) (by kernel_rfl) (by kernel_rfl) (fun _ _ _ h => h) (Or.inr ⟨by rfl, rfl⟩) (by assumption) ?tk93
                try simp only [Act.put, List.setIfInBounds_toArray, List.set_cons_zero, List.set_cons_succ]
                refine wpAnyH_take (i := 8) (oi := { dst := some 125, op := Go.Op.fieldAddr 61 (Go.Operand.tmp 9) 1, type := 0, pos := _, after := #[{ on := 6, ground := Go.Ground.guard }], guard := some (6, true) }) (v := undef) rfl (by kernel_rfl) (by kernel_rfl) (by kernel_rfl) (fun _ _ _ h => h) (Or.inr ⟨by rfl, rfl⟩) (by assumption) ?tk94
                try simp only [Act.put, List.setIfInBounds_toArray, List.set_cons_zero, List.set_cons_succ]
                refine wpAnyH_take (i := 9) (oi := { dst := some 126, op := Go.Op.indexAddr 49 (Go.Operand.tmp 125) (Go.Operand.tmp 124), type := 0, pos := _, after := #[{ on := 8, ground := Go.Ground.data }, { on := 7, ground := Go.Ground.data }, { on := 6, ground := Go.Ground.guard }], guard := some (6, true) }) (v := undef) rfl (by kernel_rfl) (by kernel_rfl) (by kernel_rfl) (fun _ _ _ h => h) (Or.inr ⟨by rfl, rfl⟩) (by assumption) ?tk95
                try simp only [Act.put, List.setIfInBounds_toArray, List.set_cons_zero, List.set_cons_succ]
                refine wpAnyH_take (i := 10) (oi := { dst := some 127, op := Go.Op.load 48 (Go.Operand.tmp 126), type := 48, pos := _, after := #[{ on := 9, ground := Go.Ground.data }, { on := 6, ground := Go.Ground.guard }], guard := some (6, true) }) (v := undef) rfl (by kernel_rfl) (by kernel_rfl) (by kernel_rfl) (fun _ _ _ h => h) (Or.inr ⟨by rfl, rfl⟩) (by assumption) ?tk96
                try simp only [Act.put, List.setIfInBounds_toArray, List.set_cons_zero, List.set_cons_succ]
                refine wpAnyH_take (i := 11) (oi := { dst := some 128, op := Go.Op.move (Go.Operand.tmp 17), type := 3, pos := _, after := #[{ on := 6, ground := Go.Ground.guard }], guard := some (6, true) }) (v := undef) rfl (by kernel_rfl) (by kernel_rfl) (by kernel_rfl) (fun _ _ _ h => h) (Or.inr ⟨by rfl, rfl⟩) (by assumption) ?tk97
                try simp only [Act.put, List.setIfInBounds_toArray, List.set_cons_zero, List.set_cons_succ]
                refine wpAnyH_take (i := 12) (oi := { dst := some 129, op := Go.Op.fieldAddr 61 (Go.Operand.tmp 5) 1, type := 0, pos := _, after := #[{ on := 6, ground := Go.Ground.guard }], guard := some (6, true) }) (v := undef) rfl (by kernel_rfl) (by kernel_rfl) (by kernel_rfl) (fun _ _ _ h => h) (Or.inr ⟨by rfl, rfl⟩) (by assumption) ?tk98
                try simp only [Act.put, List.setIfInBounds_toArray, List.set_cons_zero, List.set_cons_succ]
                refine wpAnyH_take (i := 13) (oi := { dst := some 130, op := Go.Op.indexAddr 49 (Go.Operand.tmp 129) (Go.Operand.tmp 128), type := 0, pos := _, after := #[{ on := 12, ground := Go.Ground.data }, { on := 11, ground := Go.Ground.data }, { on := 6, ground := Go.Ground.guard }], guard := some (6, true) }) (v := undef) rfl (by kernel_rfl) (by kernel_rfl) (by kernel_rfl) (fun _ _ _ h => h) (Or.inr ⟨by rfl, rfl⟩) (by assumption) ?tk99
                try simp only [Act.put, List.setIfInBounds_toArray, List.set_cons_zero, List.set_cons_succ]
                refine wpAnyH_take (i := 14) (oi := { dst := some 131, op := Go.Op.load 48 (Go.Operand.tmp 130), type := 48, pos := _, after := #[{ on := 13, ground := Go.Ground.data }, { on := 6, ground := Go.Ground.guard }], guard := some (6, true) }) (v := undef) rfl (by kernel_rfl) (by kernel_rfl) (by kernel_rfl) (fun _ _ _ h => h) (Or.inr ⟨by rfl, rfl⟩) (by assumption) ?tk100
                try simp only [Act.put, List.setIfInBounds_toArray, List.set_cons_zero, List.set_cons_succ]
                refine wpAnyH_take (i := 15) (oi := { dst := some 132, op := Go.Op.binOp Go.BinOp.neq 48 (Go.Operand.tmp 127) (Go.Operand.tmp 131) 48, type := 4, pos := _, after := #[{ on := 10, ground := Go.Ground.data }, { on := 14, ground := Go.Ground.data }, { on := 6, ground := Go.Ground.guard }], guard := some (6, true) }) (v := undef) rfl (by kernel_rfl) (by kernel_rfl) (by kernel_rfl) (fun _ _ _ h => h) (Or.inr ⟨by rfl, rfl⟩) (by assumption) ?tk101
                try simp only [Act.put, List.setIfInBounds_toArray, List.set_cons_zero, List.set_cons_succ]
                refine wpAnyH_take (i := 16) (oi := { dst := some 133, op := Go.Op.pick (Go.Operand.tmp 123) (Go.Operand.tmp 132) (Go.Operand.const (Go.Value.bool false)), type := 4, pos := _, after := #[{ on := 6, ground := Go.Ground.data }, { on := 15, ground := Go.Ground.data }], guard := none }) (v := ?vv102) rfl (by kernel_rfl) (by kernel_rfl) (by kernel_rfl) (fun _ _ _ h => h) (Or.inl ⟨by rfl, ?hy102⟩) (by assumption) ?tk102
                case hy102 => (intro w hSw; (try dsimp only at hSw); go_simp; (try with_reducible rfl))
                try simp only [Act.put, List.setIfInBounds_toArray, List.set_cons_zero, List.set_cons_succ]
                refine wpAnyH_done (by kernel_rfl) ?_ _
                go_wp2
                go_roundg (16 - (j + 1))
                case measure => omega
                case rel => exact ⟨j + 1, by omega, by go_num, LK1.drew.same (fun y _ => partJ_no (fun q => HN2.out q.1) y)⟩
            · have e : j = 16 := by omega
              subst e
              have hone := stat_one LK1.s9 LK1.r9 hcz
              obtain ⟨c2, hr5, hz5⟩ := LK1.st.row
              have hl61 := load61 LK1.r9 hcz
              have hs61 := store61 hr5 hz5 hcz hone
              go_upto_region 33 with fail
              go_wp2_with (first | (refine wpList_load_row rfl (.tmp 9) 61 rfl ⟨b9, 0, none⟩ (.agg cs) rfl hl61 ?_) | (refine wpList_store_row rfl (.tmp 5) (.tmp 139) 61 rfl ⟨b5, 0, none⟩ (.agg cs) rfl rfl hs61 ?_) | go_in)
              go_meet
              case rel =>
                obtain ⟨⟨Q', I', W'⟩, hle⟩ := HJ.out
                have LK2 : LK w wr B mb t' (4 * i + 4) ν' τ' σ' b4 b5 base b9 base9 S S9 cs (joinF σ.s σ'.s i η1) := LK1.same (fun y hy => (partJ_all σ.s σ'.s i η1 hy).symm)
                have hle2 : ∀ y, y < 16 → joinF σ.s σ'.s i η1 y ≤ ((i + 1 : Nat) : Int) := fun y hy => by
                  have := joinF_le (s := σ.s) (s' := σ'.s) hle y hy
                  omega
                have HF := LK2.turn hcz HH.out.h0 HH.out.h1 h94 h59 HSO.out ⟨Q', I', W'⟩ hle2
                exact ⟨t', ν', τ', σ', base9, S9, _, HF⟩
        case rest =>
          obtain ⟨t', ν', τ', σ', base', S', η', H'⟩ := hcut
          go_wp2
          go_roundg (n - (i + 1))
          case measure => omega
          case rel => exact ⟨i + 1, t', ν', τ', σ', base', S', η', by omega, by go_num, H'⟩
      · have e : i = n := by omega
        subst e
        go_wp2
        go_ret
        exact ⟨rfl, H.b⟩
  · rw [decide_eq_false hb] at hsm
    go_enter Tryz.func10, Tryz.ntmps10
    go_wp2_with fail
    refine hsm.mono ?_
    rintro e w ⟨rfl, rfl⟩
    go_wp2
    go_ret
    exact ⟨rfl, Below.refl _ _⟩
end Go.Proofs.Qxb6500877aGreatDoor
