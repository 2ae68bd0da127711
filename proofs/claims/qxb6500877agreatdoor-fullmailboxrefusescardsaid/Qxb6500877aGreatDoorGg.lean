import Derived.Deep.CutBlock
import Derived.OwnWalk
import Derived.Test.Qxb6500877aGreatDoorGf
set_option linter.unusedVariables false
set_option linter.unusedSimpArgs false
namespace Go.Proofs.Qxb6500877aGreatDoor
open Go.RowKit

theorem held_new (w : World) : HeldAt (w.alloc (.cells #[.int .i64 0, .int .i64 0, .int .i64 0, .int .i64 0, .int .i64 0, .int .i64 0, .int .i64 0, .int .i64 0, .int .i64 0, .int .i64 0, .int .i64 0, .int .i64 0, .int .i64 0, .int .i64 0, .int .i64 0, .int .i64 0] 74)) w.heap.size (cntN net0) := by
  refine ⟨fun i hi => ?_, fun o => by simp⟩
  have e : cntN net0 i = 0 := rfl
  rw [e]
  have : i = 0 ∨ i = 1 ∨ i = 2 ∨ i = 3 ∨ i = 4 ∨ i = 5 ∨ i = 6 ∨ i = 7 ∨ i = 8 ∨ i = 9 ∨ i = 10 ∨ i = 11 ∨ i = 12 ∨ i = 13 ∨ i = 14 ∨ i = 15 := by omega
  rcases this with rfl | rfl | rfl | rfl | rfl | rfl | rfl | rfl | rfl | rfl | rfl | rfl | rfl | rfl | rfl | rfl <;> simp
theorem cnt_rng {w : World} {B mb t k : Nat} {ν : Net} {τ : TSt} {σ : Sg} (M : Mach w B mb t k ν τ σ) {i : Nat} (hi : i < 16) : 0 ≤ cntN ν i ∧ cntN ν i ≤ 32 := by
  obtain ⟨n, en, hn⟩ := (M.net.2 i hi).n
  unfold cntN
  omega
theorem held_step {n0 : Nat} {w0 w : World} {B mb t k b : Nat} {ν : Net} {τ : TSt} {σ : Sg} {η : Nat → Int} (M : Mach w B mb t k ν τ σ) (HH : HeldAt w b η) (hb : Below n0 w0 w) {i : Nat} (hi : i < 16) (v : Int) (h4 : B < b ∧ mb < b) (h2 : n0 ≤ B ∧ 2 < n0) :
    Mach (w.setCell ⟨b, i, none⟩ (.int .i64 v)) B mb t k ν τ σ ∧ HeldAt (w.setCell ⟨b, i, none⟩ (.int .i64 v)) b (fun j => if j = i then v else η j) ∧ Below n0 w0 (w.setCell ⟨b, i, none⟩ (.int .i64 v)) ∧ ∀ q, q ≠ b → (w.setCell ⟨b, i, none⟩ (.int .i64 v)).heap[q]? = w.heap[q]? := by
  have far : ∀ q, q ≠ b → (w.setCell ⟨b, i, none⟩ (.int .i64 v)).heap[q]? = w.heap[q]? := fun q hq => by
    simp only [World.setCell, Array.getElem?_modify]
    rw [if_neg (fun e => hq e.symm)]
  exact ⟨M.blocks (fun q hq => far q (by omega)), HH.put hi v, below_cell hb _ (by show n0 ≤ b; omega) _, far⟩
/-- Does one of the first j targets hold all it can? -/
def fullB (ν : Net) (l : List Nat) (j : Nat) : Bool := (l.take j).any fun b => cntN ν b == 32
theorem fullB_succ (ν : Net) {l : List Nat} {j b : Nat} (h : l[j]? = some b) : fullB ν l (j + 1) = (fullB ν l j || (cntN ν b == 32)) := by
  unfold fullB
  rw [List.take_add_one, h]
  simp
theorem fullB_all {ν : Net} {l : List Nat} (h : ∃ b ∈ l, cntN ν b = 32) : fullB ν l l.length = true := by
  unfold fullB
  rw [List.take_length, List.any_eq_true]
  obtain ⟨b, h1, h2⟩ := h
  exact ⟨b, h1, by rw [h2]; rfl⟩
theorem fullB_none {ν : Net} {l : List Nat} (h : ∀ b ∈ l, cntN ν b ≠ 32) : fullB ν l l.length = false := by
  unfold fullB
  rw [List.take_length, List.any_eq_false]
  intro b hb
  have := h b hb
  simpa using this
def addN (ν : Net) (l : List Nat) (j : Nat) (x : Nat) : Int := cntN ν x + (if x ∈ l.take j then 1 else 0)
theorem addN_zero (ν : Net) (l : List Nat) (x : Nat) : addN ν l 0 x = cntN ν x := by simp [addN]
theorem addN_all (ν : Net) (l : List Nat) (x : Nat) : addN ν l l.length x = cntN ν x + (if x ∈ l then 1 else 0) := by rw [addN, List.take_length]
theorem not_before {l : List Nat} (hn : l.Nodup) {j b : Nat} (h : l[j]? = some b) : b ∉ l.take j := fun q => by
  have e : l = l.take j ++ l.drop j := (List.take_append_drop j l).symm
  rw [e, List.nodup_append] at hn
  have hd : b ∈ l.drop j := by
    have : (l.drop j)[0]? = some b := by rw [List.getElem?_drop]; simpa using h
    exact List.mem_of_getElem? this
  exact hn.2.2 b q b hd rfl
theorem addN_at {ν : Net} {l : List Nat} (hn : l.Nodup) {j b : Nat} (h : l[j]? = some b) : addN ν l j b = cntN ν b := by
  rw [addN, if_neg (not_before hn h)]; omega
theorem addN_succ {ν : Net} {l : List Nat} (hn : l.Nodup) {j b : Nat} (h : l[j]? = some b) (x : Nat) : addN ν l (j + 1) x = if x = b then cntN ν b + 1 else addN ν l j x := by
  unfold addN
  rw [List.take_add_one, h]
  by_cases q : x = b
  · subst q; simp
  · simp [q]
set_option maxRecDepth 20000 in
set_option maxHeartbeats 16000000 in
theorem law5 {p : Option Addr} {n c : Nat} {L : List OpS} {w : World} (h : OpsIn w p L) (hn : L.length = n) (hok : ∀ o ∈ L, o.ok) (hnc : n ≤ c) (V : Vac w) (TB : TabAt w) (h2 : 2 < w.heap.size) :
    Calls Tryz.prog 5 #[.slice p n c] w fun e w' => e = .returned (.bool true) ∧ Below w.heap.size w w' := by
  have HST : Hid (∀ {w : World} {B mb t k : Nat} {ν : Net} {τ : TSt} {σ : Sg}, Mach w B mb t k ν τ σ → k < 800000 → ∀ (o : OpS), o.ok → Calls Tryz.prog 19 #[.pointer (some ⟨B, 0, none⟩), opV o] w fun e w' => StepN o w w' B mb t k ν τ σ e) := hideIt (fun M hk o ho => step_n M hk o ho)
  have hsm := small_any (p := p) (n := n) (c := c) w
  by_cases hb : n ≤ 65536
  · rw [decide_eq_true hb] at hsm
    go_enter Tryz.func5, Tryz.ntmps5
    go_wp2_with fail
    refine hsm.mono ?_
    rintro e w ⟨rfl, rfl⟩
    go_wp2_with fail
    refine (new_any V TB h2).mono ?_
    rintro e w1 ⟨B, mb, σ0, rfl, M1, hwB, hwm, hb1⟩
    have hlB := M1.lt
    have hlm := M1.mlt
    go_upto_region 4 with fail
    go_cut [4] (fun a4 wd => ∃ b4 : Nat, a4 = .pointer (some ⟨b4, 0, none⟩) ∧ Mach wd B mb 0 0 net0 τ0 σ0 ∧ HeldAt wd b4 (cntN net0) ∧ Below w.heap.size w wd ∧ (B < b4 ∧ mb < b4))
    case first =>
      go_wp2
      go_meet
      case rel =>
        have b1 := one_alloc w1 (.cells #[.int .i64 0, .int .i64 0, .int .i64 0, .int .i64 0, .int .i64 0, .int .i64 0, .int .i64 0, .int .i64 0, .int .i64 0, .int .i64 0, .int .i64 0, .int .i64 0, .int .i64 0, .int .i64 0, .int .i64 0, .int .i64 0] 74)
        exact ⟨w1.heap.size, rfl, M1.below b1, held_new w1, below_to hb1 b1 hb1.size, hlB, hlm⟩
    case rest =>
    clear hlB hlm M1 hb1
    obtain ⟨b4, rfl, M1, HH1, hb1, hB4⟩ := hcut
    go_wp2_with fail
    go_loopg [23] n (fun gg v wr => ∃ (i t : Nat) (ν : Net) (τ : TSt) (σ : Sg), i + gg = n ∧ v = .int .i64 (i : Int) ∧ Mach wr B mb t (4 * i) ν τ σ ∧ HeldAt wr b4 (cntN ν) ∧ Below w.heap.size w wr)
    case atStart => exact ⟨0, 0, net0, τ0, σ0, by omega, rfl, M1, HH1, hb1⟩
    case round =>
      clear M1 hb1 HH1
      obtain ⟨i, t, ν, τ, σ, hig, rfl, M, HH, hbw⟩ := hrel
      by_cases hi : i < n
      · have i0 : (0 : Int) ≤ i := by omega
        have i1 : (i : Int) < (n : Int) := by omega
        have hi' : i < L.length := by omega
        obtain ⟨b, off, rfl, hcs⟩ : ∃ b off, p = some ⟨b, off, none⟩ ∧ ∀ j (h : j < L.length), OpCs w b (off + j * 6) L[j] := by
          rcases h with h | h
          · rw [h] at hi'; simp at hi'
          · exact h
        have hC := hcs i hi'
        have ho := hok _ (List.getElem_mem hi')
        generalize L[i] = o at hC ho
        obtain ⟨c0, c1, c2, c3, c4, c5⟩ := hC
        have d0 := cell_later hbw c0
        have d1 := cell_later hbw c1
        have d2 := cell_later hbw c2
        have d3 := cell_later hbw c3
        have d4 := cell_later hbw c4
        have d5 := cell_later hbw c5
        clear c0 c1 c2 c3 c4 c5 hcs
        go_upto_block 1 with fail
        go_cut [] (fun wc => ∃ (t' : Nat) (ν' : Net) (τ' : TSt) (σ' : Sg), Mach wc B mb t' (4 * i + 4) ν' τ' σ' ∧ HeldAt wc b4 (cntN ν') ∧ Below w.heap.size w wc)
        case first =>
          go_upto_region 7 with fail
          go_cut [6] (fun a6 wd => ∃ b6 : Nat, a6 = .pointer (some ⟨b6, 0, none⟩) ∧ OpAt wd b6 o ∧ Mach wd B mb t (4 * i) ν τ σ ∧ HeldAt wd b4 (cntN ν) ∧ Below w.heap.size w wd ∧ b4 < b6)
          case first =>
            go_wp2
            go_meet
            case rel =>
              have b1 := one_alloc wr (.cells #[.int .u8 o.kd, .int .i64 o.a, .int .i64 o.b, .int .i64 o.c, .int .u64 o.x, .int .u64 o.y] 32)
              exact ⟨wr.heap.size, rfl, op_new wr o 32, M.below b1, HH.blk (b1.block b4 HH.lt), below_to hbw b1 hbw.size, HH.lt⟩
          case rest =>
          clear d0 d1 d2 d3 d4 d5 M hbw HH
          obtain ⟨b6, rfl, OP, M, HH, hbw, h46⟩ := hcut
          have hOP := OP.lt
          have hH4 := HH.lt
          have hsn := snap_full M
          have hz := zv61
          have hlB := M.lt
          have hlm := M.mlt
          go_upto_region 8 with fail
          go_cut [7] (fun a7 wd => ∃ (b7 base7 : Nat) (S7 : Snap), a7 = .pointer (some ⟨b7, 0, none⟩) ∧ OpAt wd b6 o ∧ Mach wd B mb t (4 * i) ν τ σ ∧ HeldAt wd b4 (cntN ν) ∧ Below w.heap.size w wd ∧ StAt wd b7 base7 S7 ∧ (B < base7 ∧ mb < base7 ∧ b4 < base7 ∧ b6 < base7 ∧ base7 ≤ b7) ∧ Hid (SnapOf t ν τ σ S7 ∧ SnapSm S7))
          case first =>
            go_wp2_with fail
            refine hsn.mono ?_
            rintro e w2 ⟨cs, S8, rfl, hcz, hso, hsm, hsc, hb2⟩
            have hon := one_of hsc
            have hrun := store61_new w2 hcz hon
            have HX := hideIt (And.intro hso (And.intro hsm (And.intro hsc (And.intro hb2 hcz))))
            clear hso hsm hsc hb2 hsn hcz hon
            go_wp2_with (first | (refine wpList_store_row rfl (.tmp 7) (.tmp 28) 61 rfl ⟨w2.heap.size, 0, none⟩ (.agg cs) rfl rfl hrun ?_) | go_in)
            go_meet
            case rel =>
              obtain ⟨hso, hsm, hsc, hb2, hcz⟩ := HX.out
              have b1 := one_alloc w2 (.cells cs 61)
              have bb := hb2.trans (b1.mono hb2.size)
              exact ⟨w2.heap.size, wc.heap.size, S8, rfl, OP.blk (bb.block b6 hOP), M.below bb, HH.blk (bb.block b4 hH4), below_to hbw bb hbw.size, stat_new hcz hsc, ⟨hlB, hlm, hH4, hOP, hb2.size⟩, hideIt ⟨hso, hsm⟩⟩
          case rest =>
          clear hsn hz hlB hlm hOP hH4 OP M HH hbw
          obtain ⟨b7, base7, S7, rfl, OP, M, HH, hbw, T7, h7, HSO⟩ := hcut
          have hOP := OP.lt
          have hH4 := HH.lt
          have hT7 := T7.lt
          have hst := HST.out M (by omega) o ho
          unfold opV at hst
          have OP' := OP
          obtain ⟨g0, g1, g2, g3, g4, g5⟩ := OP'
          go_upto_region 9 with fail
          go_cut [8] (fun a8 wd => ∃ (b8 : Nat) (c co tk tm : Int) (hm : Bool) (mm : MsgV) (pp : Option Addr) (cap : Nat) (l : List FiredS) (t' : Nat) (ν' : Net) (τ' : TSt) (σ' : Sg), a8 = .pointer (some ⟨b8, 0, none⟩) ∧ (Mach wd B mb t' (4 * i + 4) ν' τ' σ' ∧ HeldAt wd b4 (cntN ν) ∧ Below w.heap.size w wd ∧ OpAt wd b6 o ∧ RgAt wd b8 c co tk tm hm mm pp l.length cap ∧ StAt wd b7 base7 S7) ∧ b4 < b8 ∧ Hid (NetE o t ν c ν' ∧ (c ≠ 0 → t' = t ∧ ν' = ν ∧ τ' = τ ∧ σ' = σ)))
          case first =>
            go_wp2_with fail
            refine hst.mono ?_
            rintro e w2 ⟨c, co, tk, tm, hm, mm, pp, nn, l, t', ν', τ', σ', rfl, hF, D, hN, hZ⟩
            have st2 := T7.done D (by omega) (by omega)
            have b2 := below_done hbw D hbw.size hwB hwm
            have HX := hideIt (And.intro D.m (And.intro (HH.blk (D.f.block b4 hH4 (by omega) (by omega))) (And.intro b2 (And.intro (OP.blk (D.f.block b6 hOP (by omega) (by omega))) (And.intro st2 (And.intro (Nat.lt_of_lt_of_le hH4 D.f.size) (And.intro hN hZ)))))))
            clear hZ hN hF hst D OP HH T7 g0 g1 g2 g3 g4 g5 st2 b2 M
            unfold resV
            go_wp2
            go_meet
            case rel =>
              obtain ⟨d1, d2, d3, d4, d5, d6, d7, d8⟩ := HX.out
              have b1 := one_alloc w2 (.cells #[.int .i64 c, .int .i64 co, .int .i64 tk, .int .u64 tm, .bool hm, .int .i64 mm.mf, .int .i64 mm.mt, .int .u32 mm.md, .int .u64 mm.mq, .int .u64 mm.ma, .int .u64 mm.x0, .int .u64 mm.x1, .int .u64 mm.x2, .int .u64 mm.x3, .slice pp l.length nn] 43)
              exact ⟨w2.heap.size, c, co, tk, tm, hm, mm, pp, nn, l, t', ν', τ', σ', rfl, ⟨d1.below b1, d2.blk (b1.block b4 d2.lt), below_to d3 b1 d3.size, d4.blk (b1.block b6 d4.lt), rg_new w2 c co tk tm hm mm pp l.length nn 43, d5.below b1⟩, d6, hideIt ⟨d7, fun hc => by obtain ⟨q1, q2, q3, q4, _⟩ := d8 hc; exact ⟨q1, q2, q3, q4⟩⟩⟩
          case rest =>
          clear hst M HH OP hbw T7 hOP hH4 hT7 g0 g1 g2 g3 g4 g5
          obtain ⟨b8, c, co, tk, tm, hm, mm, pp, cap, l0, t', ν', τ', σ', rfl, ⟨M, HH, hbw, OP, RG, T7⟩, h48, HNE⟩ := hcut
          have OP' := OP
          obtain ⟨g0, g1, g2, g3, g4, g5⟩ := OP'
          have r0 := RG.c0
          go_upto_block 2 with fail
          go_cut [] from 24 to 133 (fun wd => Mach wd B mb t' (4 * i + 4) ν' τ' σ' ∧ HeldAt wd b4 (cntN ν') ∧ Below w.heap.size w wd)
          case first =>
            rcases HNE.out.1 with ⟨hk1, hcase⟩ | ⟨hk45, hSS⟩ | ⟨hkn, hν⟩
            · skip
              have e1 : (((o.kd : Nat) : Int) == 1) = true := by rw [hk1]; rfl
              rcases hcase with ⟨hc0, i', hi16, hia, hcnt⟩ | ⟨hcn, hν⟩
              · subst hc0
                have hrem := rem_any o.a wc
                rw [hia] at hrem
                have x0 : (0 : Int) ≤ i' := by omega
                have x1 : (i' : Int) < 16 := by omega
                have hcell := HH.cell i' hi16
                have fz := HH.fz
                have hc' := hcnt i'
                rw [if_pos rfl] at hc'
                have hnb := cnt_rng M hi16
                have hw : IntKind.i64.wrap (cntN ν i' - 1) = cntN ν i' - 1 := by rw [IntKind.wrap_i64]; omega
                have HCN := hideIt hcnt
                clear hcnt hc' hnb
                go_wp2_with fail
                refine hrem.mono ?_
                rintro e wc ⟨rfl, rfl⟩
                go_wp2
                go_meet
                case rel =>
                  obtain ⟨a1, a2, a3, a4⟩ := held_step M HH hbw hi16 (cntN ν i' - 1) hB4 ⟨hwB, h2⟩
                  refine ⟨a1, a2.same (fun x _ => ?_), a3⟩
                  rw [HCN.out x]
                  by_cases q : x = i'
                  · subst q; rw [if_pos rfl, if_pos rfl]
                  · rw [if_neg q, if_neg q]; omega
              · have e0 : (c == 0) = false := by simpa using hcn
                have HNU := hideIt hν
                clear hν hcn
                go_wp2
                go_meet
                case rel => exact ⟨M, by rw [HNU.out]; exact HH, hbw⟩
            · rcases hk45 with hkd | hkd
              · skip
                have e1 : (((o.kd : Nat) : Int) == 1) = false := by rw [hkd]; rfl
                have e4 : (((o.kd : Nat) : Int) == 4) = true := by rw [hkd]; rfl
                have e5 : (((o.kd : Nat) : Int) == 5) = false := by rw [hkd]; rfl
                by_cases hf : Formed o
                · skip
                  obtain ⟨l, tl, hl16, hl4, hnd, hcs⟩ := send_formed (.inl hkd) hf hSS
                  have q1 := inRange_any o.c 4294967296 wc
                  rw [decide_eq_true hf.1] at q1
                  have q2 := inRange_any o.a 4 wc
                  rw [decide_eq_true hf.2.1] at q2
                  have q3 := inRange_any o.b 4 wc
                  rw [decide_eq_true (hf.2.2 hkd)] at q3
                  have HCS := hideIt hcs
                  have HND := hideIt hnd
                  have HL16 := hideIt hl16
                  have HTL := hideIt tl
                  have HSS := hideIt hSS
                  have HFO := hideIt hf
                  clear hcs hnd hl16 tl hSS hf hkd
                  go_wp2_with fail
                  refine q1.mono ?_
                  rintro e wc ⟨rfl, rfl⟩
                  go_wp2_with fail
                  refine q2.mono ?_
                  rintro e wc ⟨rfl, rfl⟩
                  go_wp2_with fail
                  refine q3.mono ?_
                  rintro e wc ⟨rfl, rfl⟩
                  have htg := targets_any (w := wc) HTL.out
                  unfold opV at htg
                  go_wp2_with fail
                  refine htg.mono ?_
                  rintro e w2 ⟨v, rfl, ⟨g, cg, rfl, hg1, hg2, hgc⟩, hb2⟩
                  have HM' := hideIt (M.below hb2)
                  have HH' := hideIt (HH.blk (hb2.block b4 HH.lt))
                  have hbw' := below_to hbw hb2 hbw.size
                  have OP' := OP.blk (hb2.block b6 OP.lt)
                  have RG' := hideIt (RG.blk (hb2.block b8 RG.lt))
                  have T7' := hideIt (T7.below hb2)
                  clear M HH hbw T7 RG OP g0 g1 g2 g3 g4 g5 r0 q1 q2 q3 htg hb2
                  have M := HM'.out
                  have HH := HH'.out
                  have hbw := hbw'
                  have RG := RG'.out
                  have T7 := T7'.out
                  have OP := OP'
                  obtain ⟨g0, g1, g2, g3, g4, g5⟩ := OP'
                  have r0 := RG.c0
                  clear HM' HH' hbw' RG' T7'
                  have HGC := hideIt hgc
                  clear hgc
                  have hgc := HGC
                  go_wp2_with fail
                  go_loopg [71, 9] l.length (fun gg v71 v9 wr => ∃ j : Nat, j + gg = l.length ∧ v71 = .int .i64 (j : Int) ∧ v9 = .bool (fullB ν l j) ∧ w2 = wr)
                  case atStart => exact ⟨0, by omega, rfl, rfl, rfl⟩
                  case round =>
                    obtain ⟨j, hjg, rfl, rfl, rfl⟩ := hrel
                    by_cases hj : j < l.length
                    · have j0 : (0 : Int) ≤ j := by omega
                      have j1 : (j : Int) < (l.length : Int) := by omega
                      have hbx : ∃ b, l[j]? = some b := ⟨l[j], List.getElem?_eq_getElem hj⟩
                      obtain ⟨b, hbj⟩ := hbx
                      have hb16 : b < 16 := HL16.out b (List.mem_of_getElem? hbj)
                      have x0 : (0 : Int) ≤ b := by omega
                      have x1 : (b : Int) < 16 := by omega
                      have tj := hgc.out j b hbj
                      have hcell := HH.cell b hb16
                      have HFS := hideIt (fullB_succ ν hbj)
                      clear hbj
                      generalize fullB ν l j = fb at HFS
                      cases fb
                      · go_wp2
                        go_roundg (l.length - (j + 1))
                        case measure => omega
                        case rel => exact ⟨j + 1, by omega, by go_num, by rw [HFS.out]; simp, rfl⟩
                      · go_wp2
                        go_roundg (l.length - (j + 1))
                        case measure => omega
                        case rel => exact ⟨j + 1, by omega, by go_num, by rw [HFS.out]; simp, rfl⟩
                    · have e : j = l.length := by omega
                      subst e
                      have hcs := HCS.out
                      have hnd := HND.out
                      clear HCS HND
                      rcases hcs with hcs | hcs
                      · skip
                        obtain ⟨HC, h8, hν⟩ := hcs
                        have e8 := fullB_all HC
                        have HNU := hideIt hν
                        clear HC hν
                        rw [e8]
                        subst h8
                        have hsn := snap_full M
                        have hz := zv61
                        have hlB := M.lt
                        have hlm := M.mlt
                        go_upto_region 25 with fail
                        go_cut [12] (fun a12 wd => ∃ (b12 base12 : Nat) (S12 : Snap), a12 = .pointer (some ⟨b12, 0, none⟩) ∧ (Mach wd B mb t' (4 * i + 4) ν' τ' σ' ∧ HeldAt wd b4 (cntN ν) ∧ Below w.heap.size w wd ∧ RgAt wd b8 8 co tk tm hm mm pp l0.length cap ∧ StAt wd b7 base7 S7) ∧ StAt wd b12 base12 S12 ∧ Hid (SnapOf t' ν' τ' σ' S12 ∧ SnapSm S12))
                        case first =>
                          go_wp2_with fail
                          refine hsn.mono ?_
                          rintro e w3 ⟨cs, S8, rfl, hcz, hso, hsm, hsc, hb3⟩
                          have hon := one_of hsc
                          have hrun := store61_new w3 hcz hon
                          have HX := hideIt (And.intro hso (And.intro hsm (And.intro hsc (And.intro hb3 hcz))))
                          clear hso hsm hsc hb3 hsn hcz hon
                          go_wp2_with (first | (refine wpList_store_row rfl (.tmp 12) (.tmp 85) 61 rfl ⟨w3.heap.size, 0, none⟩ (.agg cs) rfl rfl hrun ?_) | go_in)
                          go_meet
                          case rel =>
                            obtain ⟨hso, hsm, hsc, hb3, hcz⟩ := HX.out
                            have b1 := one_alloc w3 (.cells cs 61)
                            have bb := hb3.trans (b1.mono hb3.size)
                            exact ⟨w3.heap.size, w2.heap.size, S8, rfl, ⟨M.below bb, HH.blk (bb.block b4 HH.lt), below_to hbw bb hbw.size, RG.blk (bb.block b8 RG.lt), T7.below bb⟩, stat_new hcz hsc, hideIt ⟨hso, hsm⟩⟩
                        case rest =>
                        clear hsn hz hlB hlm M HH hbw RG T7 OP g0 g1 g2 g3 g4 g5 r0
                        obtain ⟨b12, base12, S12, rfl, ⟨M, HH, hbw, RG, T7⟩, T12, HS12⟩ := hcut
                        have r0 := RG.c0
                        have heq : Calls Tryz.prog 24 #[.pointer (some ⟨b12, 0, none⟩), .pointer (some ⟨b7, 0, none⟩)] wc fun e w' => e = .returned (.bool true) ∧ Below wc.heap.size wc w' := by
                          obtain ⟨h1, h2, h3, h4⟩ := HNE.out.2 (by decide)
                          have so := HS12.out.1
                          rw [h1, h2, h3, h4] at so
                          exact stEqual_any T12 T7 (so.eq HSO.out.1) HS12.out.2
                        go_wp2_with fail
                        refine heq.mono ?_
                        rintro e w4 ⟨rfl, hb4⟩
                        go_wp2
                        go_meet
                        case rel => exact ⟨M.below hb4, by rw [HNU.out]; exact HH.blk (hb4.block b4 HH.lt), below_to hbw hb4 hbw.size⟩
                      · skip
                        obtain ⟨HC, h0, hcnt⟩ := hcs
                        have e8 := fullB_none HC
                        have HCN := hideIt hcnt
                        clear HC hcnt
                        rw [e8]
                        subst h0
                        have htg := targets_any (w := w2) HTL.out
                        unfold opV at htg
                        go_wp2_with fail
                        refine htg.mono ?_
                        rintro e w3 ⟨v, rfl, ⟨gq, cq, rfl, hq1, hq2, hqc⟩, hb3⟩
                        have M' := M.below hb3
                        have HH' := HH.blk (hb3.block b4 HH.lt)
                        have hbw' := below_to hbw hb3 hbw.size
                        have hq4 : b4 < gq := by have := HH.lt; omega
                        have HQ := hideIt hqc
                        clear M HH hbw T7 RG OP g0 g1 g2 g3 g4 g5 r0 hgc hqc hb3 htg
                        go_wp2_with fail
                        go_loopg [99] l.length (fun gg v wr => ∃ j : Nat, j + gg = l.length ∧ v = .int .i64 (j : Int) ∧ Mach wr B mb t' (4 * i + 4) ν' τ' σ' ∧ HeldAt wr b4 (addN ν l j) ∧ Below w.heap.size w wr ∧ Hid (∀ j b : Nat, l[j]? = some b → wr.cell? ⟨gq, j, none⟩ = some (.int .i64 (b : Int))))
                        case atStart => exact ⟨0, by omega, rfl, M', HH'.same (fun x _ => addN_zero ν l x), hbw', HQ⟩
                        case round =>
                          clear M' HH' hbw' HQ
                          obtain ⟨j, hjg, rfl, M, HH, hbw, HQ⟩ := hrel
                          by_cases hj : j < l.length
                          · have j0 : (0 : Int) ≤ j := by omega
                            have j1 : (j : Int) < (l.length : Int) := by omega
                            have hbx : ∃ b, l[j]? = some b := ⟨l[j], List.getElem?_eq_getElem hj⟩
                            obtain ⟨b, hbj⟩ := hbx
                            have hb16 : b < 16 := HL16.out b (List.mem_of_getElem? hbj)
                            have x0 : (0 : Int) ≤ b := by omega
                            have x1 : (b : Int) < 16 := by omega
                            have tj := HQ.out j b hbj
                            have hcell := HH.cell b hb16
                            rw [addN_at hnd hbj] at hcell
                            have fz := HH.fz
                            have hnb := cnt_rng M hb16
                            have hcb := HCN.out b
                            rw [if_pos (List.mem_of_getElem? hbj)] at hcb
                            have hw : IntKind.i64.wrap (cntN ν b + 1) = cntN ν b + 1 := by rw [IntKind.wrap_i64]; omega
                            have HBJ := hideIt hbj
                            clear hbj hcb hnb
                            go_wp2
                            go_roundg (l.length - (j + 1))
                            case measure => omega
                            case rel =>
                              obtain ⟨a1, a2, a3, a4⟩ := held_step M HH hbw hb16 (cntN ν b + 1) hB4 ⟨hwB, h2⟩
                              exact ⟨j + 1, by omega, by go_num, a1, a2.same (fun x _ => addN_succ hnd HBJ.out x), a3, hideIt (fun j' b' h' => (World.cell?_of_block (a := ⟨gq, j', none⟩) (a4 gq (by omega))).trans (HQ.out j' b' h'))⟩
                          · have e : j = l.length := by omega
                            subst e
                            go_wp2
                            go_meet
                            case rel => exact ⟨M, HH.same (fun x _ => (HCN.out x).trans (addN_all ν l x).symm), hbw⟩
                · skip
                  have hν := send_unformed (.inl hkd) hf hSS
                  by_cases f1 : 0 ≤ o.c ∧ o.c < 4294967296
                  · have q1 := inRange_any o.c 4294967296 wc
                    rw [decide_eq_true f1] at q1
                    by_cases f2 : 0 ≤ o.a ∧ o.a < 4
                    · have q2 := inRange_any o.a 4 wc
                      rw [decide_eq_true f2] at q2
                      have q3 := inRange_any o.b 4 wc
                      rw [decide_eq_false (fun f3 => hf ⟨f1, f2, fun _ => f3⟩)] at q3
                      have HNU := hideIt hν
                      clear hν
                      go_wp2_with fail
                      refine q1.mono ?_
                      rintro e wc ⟨rfl, rfl⟩
                      go_wp2_with fail
                      refine q2.mono ?_
                      rintro e wc ⟨rfl, rfl⟩
                      go_wp2_with fail
                      refine q3.mono ?_
                      rintro e wc ⟨rfl, rfl⟩
                      go_wp2
                      go_meet
                      case rel => exact ⟨M, by rw [HNU.out]; exact HH, hbw⟩
                    · have q2 := inRange_any o.a 4 wc
                      rw [decide_eq_false f2] at q2
                      have HNU := hideIt hν
                      clear hν
                      go_wp2_with fail
                      refine q1.mono ?_
                      rintro e wc ⟨rfl, rfl⟩
                      go_wp2_with fail
                      refine q2.mono ?_
                      rintro e wc ⟨rfl, rfl⟩
                      go_wp2
                      go_meet
                      case rel => exact ⟨M, by rw [HNU.out]; exact HH, hbw⟩
                  · have q1 := inRange_any o.c 4294967296 wc
                    rw [decide_eq_false f1] at q1
                    have HNU := hideIt hν
                    clear hν
                    go_wp2_with fail
                    refine q1.mono ?_
                    rintro e wc ⟨rfl, rfl⟩
                    go_wp2
                    go_meet
                    case rel => exact ⟨M, by rw [HNU.out]; exact HH, hbw⟩
              · skip
                have e1 : (((o.kd : Nat) : Int) == 1) = false := by rw [hkd]; rfl
                have e4 : (((o.kd : Nat) : Int) == 4) = false := by rw [hkd]; rfl
                have e5 : (((o.kd : Nat) : Int) == 5) = true := by rw [hkd]; rfl
                by_cases hf : Formed o
                · skip
                  obtain ⟨l, tl, hl16, hl4, hnd, hcs⟩ := send_formed (.inr hkd) hf hSS
                  have q1 := inRange_any o.c 4294967296 wc
                  rw [decide_eq_true hf.1] at q1
                  have q2 := inRange_any o.a 4 wc
                  rw [decide_eq_true hf.2.1] at q2
                  have HCS := hideIt hcs
                  have HND := hideIt hnd
                  have HL16 := hideIt hl16
                  have HTL := hideIt tl
                  have HSS := hideIt hSS
                  have HFO := hideIt hf
                  clear hcs hnd hl16 tl hSS hf hkd
                  go_wp2_with fail
                  refine q1.mono ?_
                  rintro e wc ⟨rfl, rfl⟩
                  go_wp2_with fail
                  refine q2.mono ?_
                  rintro e wc ⟨rfl, rfl⟩
                  have htg := targets_any (w := wc) HTL.out
                  unfold opV at htg
                  go_wp2_with fail
                  refine htg.mono ?_
                  rintro e w2 ⟨v, rfl, ⟨g, cg, rfl, hg1, hg2, hgc⟩, hb2⟩
                  have HM' := hideIt (M.below hb2)
                  have HH' := hideIt (HH.blk (hb2.block b4 HH.lt))
                  have hbw' := below_to hbw hb2 hbw.size
                  have OP' := OP.blk (hb2.block b6 OP.lt)
                  have RG' := hideIt (RG.blk (hb2.block b8 RG.lt))
                  have T7' := hideIt (T7.below hb2)
                  clear M HH hbw T7 RG OP g0 g1 g2 g3 g4 g5 r0 q1 q2 htg hb2
                  have M := HM'.out
                  have HH := HH'.out
                  have hbw := hbw'
                  have RG := RG'.out
                  have T7 := T7'.out
                  have OP := OP'
                  obtain ⟨g0, g1, g2, g3, g4, g5⟩ := OP'
                  have r0 := RG.c0
                  clear HM' HH' hbw' RG' T7'
                  have HGC := hideIt hgc
                  clear hgc
                  have hgc := HGC
                  go_wp2_with fail
                  go_loopg [71, 9] l.length (fun gg v71 v9 wr => ∃ j : Nat, j + gg = l.length ∧ v71 = .int .i64 (j : Int) ∧ v9 = .bool (fullB ν l j) ∧ w2 = wr)
                  case atStart => exact ⟨0, by omega, rfl, rfl, rfl⟩
                  case round =>
                    obtain ⟨j, hjg, rfl, rfl, rfl⟩ := hrel
                    by_cases hj : j < l.length
                    · have j0 : (0 : Int) ≤ j := by omega
                      have j1 : (j : Int) < (l.length : Int) := by omega
                      have hbx : ∃ b, l[j]? = some b := ⟨l[j], List.getElem?_eq_getElem hj⟩
                      obtain ⟨b, hbj⟩ := hbx
                      have hb16 : b < 16 := HL16.out b (List.mem_of_getElem? hbj)
                      have x0 : (0 : Int) ≤ b := by omega
                      have x1 : (b : Int) < 16 := by omega
                      have tj := hgc.out j b hbj
                      have hcell := HH.cell b hb16
                      have HFS := hideIt (fullB_succ ν hbj)
                      clear hbj
                      generalize fullB ν l j = fb at HFS
                      cases fb
                      · go_wp2
                        go_roundg (l.length - (j + 1))
                        case measure => omega
                        case rel => exact ⟨j + 1, by omega, by go_num, by rw [HFS.out]; simp, rfl⟩
                      · go_wp2
                        go_roundg (l.length - (j + 1))
                        case measure => omega
                        case rel => exact ⟨j + 1, by omega, by go_num, by rw [HFS.out]; simp, rfl⟩
                    · have e : j = l.length := by omega
                      subst e
                      have hcs := HCS.out
                      have hnd := HND.out
                      clear HCS HND
                      rcases hcs with hcs | hcs
                      · skip
                        obtain ⟨HC, h8, hν⟩ := hcs
                        have e8 := fullB_all HC
                        have HNU := hideIt hν
                        clear HC hν
                        rw [e8]
                        subst h8
                        have hsn := snap_full M
                        have hz := zv61
                        have hlB := M.lt
                        have hlm := M.mlt
                        go_upto_region 25 with fail
                        go_cut [12] (fun a12 wd => ∃ (b12 base12 : Nat) (S12 : Snap), a12 = .pointer (some ⟨b12, 0, none⟩) ∧ (Mach wd B mb t' (4 * i + 4) ν' τ' σ' ∧ HeldAt wd b4 (cntN ν) ∧ Below w.heap.size w wd ∧ RgAt wd b8 8 co tk tm hm mm pp l0.length cap ∧ StAt wd b7 base7 S7) ∧ StAt wd b12 base12 S12 ∧ Hid (SnapOf t' ν' τ' σ' S12 ∧ SnapSm S12))
                        case first =>
                          go_wp2_with fail
                          refine hsn.mono ?_
                          rintro e w3 ⟨cs, S8, rfl, hcz, hso, hsm, hsc, hb3⟩
                          have hon := one_of hsc
                          have hrun := store61_new w3 hcz hon
                          have HX := hideIt (And.intro hso (And.intro hsm (And.intro hsc (And.intro hb3 hcz))))
                          clear hso hsm hsc hb3 hsn hcz hon
                          go_wp2_with (first | (refine wpList_store_row rfl (.tmp 12) (.tmp 85) 61 rfl ⟨w3.heap.size, 0, none⟩ (.agg cs) rfl rfl hrun ?_) | go_in)
                          go_meet
                          case rel =>
                            obtain ⟨hso, hsm, hsc, hb3, hcz⟩ := HX.out
                            have b1 := one_alloc w3 (.cells cs 61)
                            have bb := hb3.trans (b1.mono hb3.size)
                            exact ⟨w3.heap.size, w2.heap.size, S8, rfl, ⟨M.below bb, HH.blk (bb.block b4 HH.lt), below_to hbw bb hbw.size, RG.blk (bb.block b8 RG.lt), T7.below bb⟩, stat_new hcz hsc, hideIt ⟨hso, hsm⟩⟩
                        case rest =>
                        clear hsn hz hlB hlm M HH hbw RG T7 OP g0 g1 g2 g3 g4 g5 r0
                        obtain ⟨b12, base12, S12, rfl, ⟨M, HH, hbw, RG, T7⟩, T12, HS12⟩ := hcut
                        have r0 := RG.c0
                        have heq : Calls Tryz.prog 24 #[.pointer (some ⟨b12, 0, none⟩), .pointer (some ⟨b7, 0, none⟩)] wc fun e w' => e = .returned (.bool true) ∧ Below wc.heap.size wc w' := by
                          obtain ⟨h1, h2, h3, h4⟩ := HNE.out.2 (by decide)
                          have so := HS12.out.1
                          rw [h1, h2, h3, h4] at so
                          exact stEqual_any T12 T7 (so.eq HSO.out.1) HS12.out.2
                        go_wp2_with fail
                        refine heq.mono ?_
                        rintro e w4 ⟨rfl, hb4⟩
                        go_wp2
                        go_meet
                        case rel => exact ⟨M.below hb4, by rw [HNU.out]; exact HH.blk (hb4.block b4 HH.lt), below_to hbw hb4 hbw.size⟩
                      · skip
                        obtain ⟨HC, h0, hcnt⟩ := hcs
                        have e8 := fullB_none HC
                        have HCN := hideIt hcnt
                        clear HC hcnt
                        rw [e8]
                        subst h0
                        have htg := targets_any (w := w2) HTL.out
                        unfold opV at htg
                        go_wp2_with fail
                        refine htg.mono ?_
                        rintro e w3 ⟨v, rfl, ⟨gq, cq, rfl, hq1, hq2, hqc⟩, hb3⟩
                        have M' := M.below hb3
                        have HH' := HH.blk (hb3.block b4 HH.lt)
                        have hbw' := below_to hbw hb3 hbw.size
                        have hq4 : b4 < gq := by have := HH.lt; omega
                        have HQ := hideIt hqc
                        clear M HH hbw T7 RG OP g0 g1 g2 g3 g4 g5 r0 hgc hqc hb3 htg
                        go_wp2_with fail
                        go_loopg [99] l.length (fun gg v wr => ∃ j : Nat, j + gg = l.length ∧ v = .int .i64 (j : Int) ∧ Mach wr B mb t' (4 * i + 4) ν' τ' σ' ∧ HeldAt wr b4 (addN ν l j) ∧ Below w.heap.size w wr ∧ Hid (∀ j b : Nat, l[j]? = some b → wr.cell? ⟨gq, j, none⟩ = some (.int .i64 (b : Int))))
                        case atStart => exact ⟨0, by omega, rfl, M', HH'.same (fun x _ => addN_zero ν l x), hbw', HQ⟩
                        case round =>
                          clear M' HH' hbw' HQ
                          obtain ⟨j, hjg, rfl, M, HH, hbw, HQ⟩ := hrel
                          by_cases hj : j < l.length
                          · have j0 : (0 : Int) ≤ j := by omega
                            have j1 : (j : Int) < (l.length : Int) := by omega
                            have hbx : ∃ b, l[j]? = some b := ⟨l[j], List.getElem?_eq_getElem hj⟩
                            obtain ⟨b, hbj⟩ := hbx
                            have hb16 : b < 16 := HL16.out b (List.mem_of_getElem? hbj)
                            have x0 : (0 : Int) ≤ b := by omega
                            have x1 : (b : Int) < 16 := by omega
                            have tj := HQ.out j b hbj
                            have hcell := HH.cell b hb16
                            rw [addN_at hnd hbj] at hcell
                            have fz := HH.fz
                            have hnb := cnt_rng M hb16
                            have hcb := HCN.out b
                            rw [if_pos (List.mem_of_getElem? hbj)] at hcb
                            have hw : IntKind.i64.wrap (cntN ν b + 1) = cntN ν b + 1 := by rw [IntKind.wrap_i64]; omega
                            have HBJ := hideIt hbj
                            clear hbj hcb hnb
                            go_wp2
                            go_roundg (l.length - (j + 1))
                            case measure => omega
                            case rel =>
                              obtain ⟨a1, a2, a3, a4⟩ := held_step M HH hbw hb16 (cntN ν b + 1) hB4 ⟨hwB, h2⟩
                              exact ⟨j + 1, by omega, by go_num, a1, a2.same (fun x _ => addN_succ hnd HBJ.out x), a3, hideIt (fun j' b' h' => (World.cell?_of_block (a := ⟨gq, j', none⟩) (a4 gq (by omega))).trans (HQ.out j' b' h'))⟩
                          · have e : j = l.length := by omega
                            subst e
                            go_wp2
                            go_meet
                            case rel => exact ⟨M, HH.same (fun x _ => (HCN.out x).trans (addN_all ν l x).symm), hbw⟩
                · skip
                  have hν := send_unformed (.inr hkd) hf hSS
                  by_cases f1 : 0 ≤ o.c ∧ o.c < 4294967296
                  · have q1 := inRange_any o.c 4294967296 wc
                    rw [decide_eq_true f1] at q1
                    by_cases f2 : 0 ≤ o.a ∧ o.a < 4
                    · have q2 := inRange_any o.a 4 wc
                      rw [decide_eq_true f2] at q2
                      exact absurd ⟨f1, f2, fun e => by omega⟩ hf
                    · have q2 := inRange_any o.a 4 wc
                      rw [decide_eq_false f2] at q2
                      have HNU := hideIt hν
                      clear hν
                      go_wp2_with fail
                      refine q1.mono ?_
                      rintro e wc ⟨rfl, rfl⟩
                      go_wp2_with fail
                      refine q2.mono ?_
                      rintro e wc ⟨rfl, rfl⟩
                      go_wp2
                      go_meet
                      case rel => exact ⟨M, by rw [HNU.out]; exact HH, hbw⟩
                  · have q1 := inRange_any o.c 4294967296 wc
                    rw [decide_eq_false f1] at q1
                    have HNU := hideIt hν
                    clear hν
                    go_wp2_with fail
                    refine q1.mono ?_
                    rintro e wc ⟨rfl, rfl⟩
                    go_wp2
                    go_meet
                    case rel => exact ⟨M, by rw [HNU.out]; exact HH, hbw⟩
            · skip
              have e1 : (((o.kd : Nat) : Int) == 1) = false := by simp; omega
              have e4 : (((o.kd : Nat) : Int) == 4) = false := by simp; omega
              have e5 : (((o.kd : Nat) : Int) == 5) = false := by simp; omega
              have HNU := hideIt hν
              clear hν hkn
              go_wp2
              go_meet
              case rel => exact ⟨M, by rw [HNU.out]; exact HH, hbw⟩
          case rest =>
            obtain ⟨M, HH, hbw⟩ := hcut
            have hl74 := load74 HH
            go_wp2_with (first | (refine wpList_load_row rfl (.tmp 4) 74 rfl ⟨b4, 0, none⟩ (heldV (cntN ν')) rfl hl74 ?_) | go_in)
            go_loopg [110] 16 (fun gg v wr => ∃ j : Nat, j + gg = 16 ∧ v = .int .i64 (j : Int) ∧ Mach wr B mb t' (4 * i + 4) ν' τ' σ' ∧ HeldAt wr b4 (cntN ν') ∧ Below w.heap.size w wr)
            case atStart => exact ⟨0, by omega, rfl, M, HH, hbw⟩
            case round =>
              clear M HH hbw hl74
              obtain ⟨j, hjg, rfl, M, HH, hbw⟩ := hrel
              by_cases hj : j < 16
              · have j0 : (0 : Int) ≤ j := by omega
                have j1 : (j : Int) < 16 := by omega
                obtain ⟨hn0, hn1⟩ := cnt_rng M hj
                have hgt : ¬ ((32 : Int) < cntN ν' j) := by omega
                have hpe : Calls Tryz.prog 34 #[.pointer (some ⟨B, 0, none⟩), .int .i64 (j : Int)] wr fun e w' => e = .returned (.int .i64 (cntN ν' j)) ∧ w' = wr := pending_b M.net.1 hj
                have hfr := from_any (w := wr) hj
                have hto := to_any (w := wr) hj
                have hro : Calls Tryz.prog 35 #[.pointer (some ⟨B, 0, none⟩), .int .i64 ((j / 4 : Nat) : Int), .int .i64 ((j % 4 : Nat) : Int)] wr fun e w' => e = .returned (.int .i64 (32 - cntN ν' j)) ∧ Below wr.heap.size wr w' := room_b M.net.1 hj hn0 hn1
                have hw : IntKind.i64.wrap (32 - cntN ν' j) = 32 - cntN ν' j := by rw [IntKind.wrap_i64]; omega
                go_upto_region 38 with (first | (refine wpList_index74 rfl (.tmp 109) (.tmp 110) rfl hj rfl rfl ?_))
                go_wp2_with fail
                refine hpe.mono ?_
                rintro e wr ⟨rfl, rfl⟩
                go_wp2_with fail
                refine hfr.mono ?_
                rintro e wr ⟨rfl, rfl⟩
                go_wp2_with fail
                refine hto.mono ?_
                rintro e wr ⟨rfl, rfl⟩
                go_wp2_with fail
                refine hro.mono ?_
                rintro e w4 ⟨rfl, hb4⟩
                go_wp2
                go_roundg (16 - (j + 1))
                case measure => omega
                case rel => exact ⟨j + 1, by omega, by go_num, M.below hb4, HH.blk (hb4.block b4 HH.lt), below_to hbw hb4 hbw.size⟩
              · have e : j = 16 := by omega
                subst e
                go_wp2
                go_meet
                case rel => exact ⟨t', ν', τ', σ', M, HH, hbw⟩
        case rest =>
          obtain ⟨t', ν', τ', σ', M', HH', hb'⟩ := hcut
          go_wp2
          go_roundg (n - (i + 1))
          case measure => omega
          case rel => exact ⟨i + 1, t', ν', τ', σ', by omega, by go_num, M', HH', hb'⟩
      · have e : i = n := by omega
        subst e
        go_wp2
        go_ret
        exact ⟨rfl, hbw⟩
  · rw [decide_eq_false hb] at hsm
    go_enter Tryz.func5, Tryz.ntmps5
    go_wp2_with fail
    refine hsm.mono ?_
    rintro e w ⟨rfl, rfl⟩
    go_wp2
    go_ret
    exact ⟨rfl, Below.refl _ _⟩
end Go.Proofs.Qxb6500877aGreatDoor
