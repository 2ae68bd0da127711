import Derived.Deep.CutBlock
import Derived.Test.Qxb6500877aGreatDoorNPi1
import Derived.Test.Qxb6500877aGreatDoorNPh
import Derived.Test.Qxb6500877aGreatDoorNMz
set_option linter.unusedVariables false
set_option linter.unusedSimpArgs false
namespace Go.Proofs.Qxb6500877aGreatDoor
open Go.RowKit

set_option maxRecDepth 20000 in
set_option maxHeartbeats 16000000 in
theorem law4 {p : Option Addr} {n c : Nat} {L : List OpS} {w : World} (h : OpsIn w p L) (hn : L.length = n) (hok : ∀ o ∈ L, o.ok) (hnc : n ≤ c) (V : Vac w) (TB : TabAt w) (h2 : 2 < w.heap.size) :
    Calls Tryz.prog 4 #[.slice p n c] w fun e w' => e = .returned (.bool true) ∧ Below w.heap.size w w' := by
  have hsm := small_any (p := p) (n := n) (c := c) w
  by_cases hb : n ≤ 65536
  · rw [decide_eq_true hb] at hsm
    obtain ⟨i0_, hi_, hz0, hz1, hz2⟩ := info_parts info40
    go_enter Tryz.func4, Tryz.ntmps4
    go_wp2_with fail
    refine hsm.mono ?_
    rintro e w ⟨rfl, rfl⟩
    go_wp2_with fail
    refine (new_any V TB h2).mono ?_
    rintro e w1 ⟨B, mb, rfl, M1, hwB, hwm, hb1⟩
    have HN := hideIt (ls_new' (Sb := w1.heap.size + 1) (Gb := w1.heap.size + 1 + 1) (base := w1.heap.size + 1 + 1 + 1) M1 hb1 hwB hwm h2 24 57 57 rfl rfl rfl)
    clear M1 hb1
    go_wp2_with fail
    obtain ⟨P, H0⟩ := HN.out
    clear HN hwB hwm
    generalize hmc : w1.heap.size = mc at *
    generalize hSb : mc + 1 = Sb at *
    generalize hGb : Sb + 1 = Gb at *
    generalize hba : Gb + 1 = base at *
    clear hmc hSb hGb hba
    go_loopg [21] n (fun gg v wr => ∃ (i t : Nat) (ν : Net) (S : Nat → List MsgV) (g : Nat → Nat), i + gg = n ∧ v = .int .i64 (i : Int) ∧ LS w.heap.size w wr B mb t (4 * i) ν base Sb Gb mc S g)
    case atStart => exact ⟨0, 0, net0, _, _, by omega, rfl, H0⟩
    case round =>
      clear H0
      obtain ⟨i, t, ν, S, g, hig, rfl, H⟩ := hrel
      by_cases hi : i < n
      · have i0 : (0 : Int) ≤ i := by omega
        have i1 : (i : Int) < (n : Int) := by omega
        have hi' : i < L.length := by omega
        obtain ⟨b, off, rfl, hcs⟩ : ∃ b off, p = some ⟨b, off, none⟩ ∧ ∀ j (h : j < L.length), OpCs w b (off + j * 6) L[j] := by
          rcases h with h | h
          · rw [h] at hi'; simp at hi'
          · exact h
        have hC := hcs i hi'
        have ho := hok _ (List.getElem_mem hi')
        generalize L[i] = o at hC ho
        obtain ⟨c0, c1, c2, c3, c4, c5⟩ := hC
        have d0 := cell_later H.b c0
        have d1 := cell_later H.b c1
        have d2 := cell_later H.b c2
        have d3 := cell_later H.b c3
        have d4 := cell_later H.b c4
        have d5 := cell_later H.b c5
        clear c0 c1 c2 c3 c4 c5 hcs
        go_upto_block 1 with fail
        go_cut [] (fun wc => ∃ (t' : Nat) (ν' : Net) (S' : Nat → List MsgV) (g' : Nat → Nat), LS w.heap.size w wc B mb t' (4 * i + 4) ν' base Sb Gb mc S' g')
        case first =>
          go_upto_region 8 with fail
          go_cut [8] (fun a8 wc => ∃ p8 : Nat, a8 = .pointer (some ⟨p8, 0, none⟩) ∧ OpAt wc p8 o ∧ LS w.heap.size w wc B mb t (4 * i) ν base Sb Gb mc S g ∧ base ≤ p8 ∧ p8 < wc.heap.size ∧ ∃ V, Rws wc base Sb Gb V (rowsOf S g) ∧ ∀ r, r < 32 → ∀ q, (V r).ownBlock = some q → q < p8)
          case first =>
            go_wp2
            go_meet
            case rel =>
              obtain ⟨V, R⟩ := H.r
              refine ⟨wr.heap.size, rfl, op_new wr o 32, H.below P (one_alloc _ _), H.hb, by simp, V, R.below (one_alloc _ _), fun r hr q hq => ((R.own r hr).lt q hq).2⟩
          case rest =>
          clear d0 d1 d2 d3 d4 d5 H
          obtain ⟨p8, rfl, OP, H, hp8, hp8', V, R, hfar⟩ := hcut
          have HF := hideIt hfar
          clear hfar
          have OP' := OP
          obtain ⟨g0, g1, g2, g3, g4, g5⟩ := OP
          by_cases h1 : o.kd = 1
          · rw [h1] at g0
            clear h1
            have htk := got_any P H R (by omega) o.a
            go_wp2_with fail
            refine htk.mono ?_
            rintro e w2 ⟨rfl, i', ν', _, _, H2, _⟩
            go_wp2
            go_meet
            case rel => exact ⟨t, ν', S, _, H2⟩
          · have e1 : (((o.kd : Nat) : Int) == 1) = false := by simp; omega
            have H1 := hideIt h1
            clear h1
            have hmc := H.c
            have hnow := now_any H.m.clk
            go_wp2_with fail
            refine hnow.mono ?_
            rintro e wc ⟨rfl, rfl⟩
            have hst := step_oth H.m (by omega) o ho H1.out
            unfold opV at hst
            go_upto_region 13 with fail
            go_cut [10] (fun a10 wd => ∃ (b10 : Nat) (z : Int) (ν' : Net), a10 = .pointer (some ⟨b10, 0, none⟩) ∧ wd.cell? ⟨b10, 0, none⟩ = some (.int .i64 z) ∧ wd.cell? ⟨b10, 4, none⟩ = some (.bool false) ∧ OpAt wd p8 o ∧ Mach wd B mb (afterF t (tickOf o)) (4 * i + 4) ν' ∧ Rws wd base Sb Gb V (rowsOf S g) ∧ wd.cell? ⟨mc, 0, none⟩ = some (.pointer (some ⟨B, 0, none⟩)) ∧ Below w.heap.size w wd ∧ p8 < wd.heap.size ∧ Hid (((o.kd = 4 ∨ o.kd = 5) → StepSend o t ν z ν') ∧ (¬ (o.kd = 4 ∨ o.kd = 5) → ν' = ν)))
            case first =>
              go_wp2_with fail
              refine hst.mono ?_
              rintro e w2 ⟨z, ν', ⟨co, tk, tm, m, pp, a, nn, rfl⟩, D2, hS1, hS2⟩
              have HS := hideIt (And.intro hS1 hS2)
              clear hS1 hS2 hst
              have HD := hideIt (H.step P D2)
              have hbk := D2.f.block p8 hp8' (by have := P.hi; omega) (by have := P.hi; omega)
              have hsz := D2.f.size
              unfold resV
              go_wp2
              go_meet
              case rel =>
                obtain ⟨M1, R1, C1, B1, hb1⟩ := HD.out
                have h0 := P.n0
                refine ⟨w2.heap.size, z, ν', rfl, by simp, by simp, (OP'.blk hbk).blk ((one_alloc _ _).block _ (by omega)), M1.below (one_alloc _ _), (R1 V R).below (one_alloc _ _), ?_, below_to B1 (one_alloc _ _) (by omega), by simp; omega, HS⟩
                exact (World.cell?_of_block (a := ⟨mc, 0, none⟩) ((one_alloc w2 _).block mc (World.block_lt_of_cell? _ _ C1))).trans C1
            case rest =>
            have hN := H.n
            have hSl : Hid (∀ q, q < 16 → (S q).length ≤ 4 * i) := hideIt (fun q hq => H.len hq)
            clear g0 g1 g2 g3 g4 g5 OP' hst hnow hmc H R
            obtain ⟨b10, z, ν', rfl, x0, x4, OP', M, R, hmc, hbw, hp8w, HS⟩ := hcut
            have OP := OP'
            obtain ⟨g0, g1, g2, g3, g4, g5⟩ := OP
            by_cases hsd : (o.kd = 4 ∨ o.kd = 5) ∧ z = 0
            · obtain ⟨hkk, rfl⟩ := hsd
              obtain ⟨l, htg, hl16, hoc, N'⟩ := sent_all (HS.out.1 hkk) hN hkk
              have HT := hideIt (And.intro htg (And.intro hl16 (And.intro hoc N')))
              have hgle := hideIt hN.le
              have htar := targets_any (w := wc) htg
              unfold opV at htar
              have HKK := hideIt hkk
              clear HS hN hkk htg hl16 N'
              go_upto_region 16 with fail
              go_cut [52] (fun a52 wd => a52 = .bool true ∧ wd = wc)
              case first =>
                rcases HKK.out with hk4 | hk5
                · rw [hk4] at g0
                  clear hk4
                  go_wp2
                  go_meet
                  case rel => exact ⟨rfl, rfl⟩
                · rw [hk5] at g0
                  clear hk5
                  go_wp2
                  go_meet
                  case rel => exact ⟨rfl, rfl⟩
              case rest =>
              obtain ⟨rfl, hwc⟩ := hcut
              subst hwc
              go_wp2_with fail
              refine htar.mono ?_
              rintro e w2 ⟨tv, rfl, ⟨gt, ct, rfl, hgt, hgt', htc⟩, hb2⟩
              have SL0 : SL w.heap.size w w2 B mb (afterF t (tickOf o)) (4 * i + 4) ν' base Sb Gb mc S S g o p8 gt l := by
                have h0 := P.n0
                have h5 := hb2.size
                have h6 := R.lt
                refine ⟨M.below hb2, ⟨V, (R.below hb2), fun r hr q hq => ?_⟩, OP'.blk (hb2.block p8 hp8w), htc, ?_, below_to hbw hb2 (by omega), by omega, by omega, by omega, hgt'⟩
                · have := HF.out r hr q hq
                  omega
                · exact (World.cell?_of_block (a := ⟨mc, 0, none⟩) (hb2.block mc (World.block_lt_of_cell? _ _ hmc))).trans hmc
              clear M R OP' g0 g1 g2 g3 g4 g5 hmc hbw hb2 htar x0 x4 htc
              go_wp2_with fail
              go_loopg [56] l.length (fun gg v wr => ∃ j : Nat, j + gg = l.length ∧ v = .int .i64 (j : Int) ∧ SL w.heap.size w wr B mb (afterF t (tickOf o)) (4 * i + 4) ν' base Sb Gb mc (sendAll o.c t o.x o.y S (l.take j)) S g o p8 gt l)
              case atStart => exact ⟨0, by omega, rfl, by simpa [sendAll] using SL0⟩
              case round =>
                clear SL0
                obtain ⟨j, hjg, rfl, SLr⟩ := hrel
                by_cases hj : j < l.length
                · have j0 : (0 : Int) ≤ j := by omega
                  have j1 : (j : Int) < (l.length : Int) := by omega
                  obtain ⟨b, hbj⟩ : ∃ b, l[j]? = some b := ⟨l[j], List.getElem?_eq_getElem hj⟩
                  have hb16 : b < 16 := HT.out.2.1 b (List.mem_of_getElem? hbj)
                  have b0 : (0 : Int) ≤ b := by omega
                  have b1 : (b : Int) < 16 := by omega
                  have tj := SLr.tg j b hbj
                  have hl4 := tgt_len HT.out.1
                  have hlj : (l.take j).length ≤ 4 := by
                    have := tgt_len HT.out.1
                    rw [List.length_take]; omega
                  have hln := sendAll_len o.c t o.x o.y (l.take j) S b
                  have hlS := hSl.out b hb16
                  obtain ⟨V, R, hfar⟩ := SLr.r
                  have hs' := R.cell b (by omega)
                  rw [rowA_s hb16] at hs'
                  obtain ⟨ps, cs, es⟩ := R.shape (r := b) (by omega)
                  have hown0 := R.own b (by omega)
                  have eL : rowsTo (sendAll o.c t o.x o.y S (l.take j)) S g b = sendAll o.c t o.x o.y S (l.take j) b := by simp [rowsTo, hb16]
                  rw [eL] at es hown0
                  obtain ⟨LL, HLL⟩ : ∃ LL, Hid (sendAll o.c t o.x o.y S (l.take j) b = LL) := ⟨_, hideIt rfl⟩
                  rw [HLL.out] at es hown0 hln
                  obtain ⟨ls, HLS⟩ : ∃ ls, Hid (LL.length = ls) := ⟨_, hideIt rfl⟩
                  rw [HLS.out] at es hown0 hln
                  have s0 : wr.cell? ⟨Sb, b, none⟩ = some (.slice ps ls cs) := by rw [hs', es]
                  have hown : wr.ownsRow base 40 9 (.slice ps ls cs) ls (msgCells LL) := by rw [← es]; exact hown0
                  have hlsb : ls ≤ 300000 := by omega
                  have hsz := SLr.hb
                  have hp8r : p8 < wr.heap.size := SLr.op.lt
                  have hSbr : Sb < wr.heap.size := R.lt.1
                  have hr1 : some Sb ≠ (Value.slice ps ls cs).ownBlock := by
                    rw [← es]; intro e; have := (hown0.lt Sb e.symm).1; have := P.hi; omega
                  have hr2 : some p8 ≠ (Value.slice ps ls cs).ownBlock := by
                    rw [← es]; intro e; exact (hfar b (by omega) p8 e.symm).1 rfl
                  obtain ⟨g0, g1, g2, g3, g4, g5⟩ := SLr.op
                  have hcw := wrap_u32_id hoc
                  have hw1 : IntKind.i64.wrap ((ls : Int) + 1) = (ls : Int) + 1 := by rw [IntKind.wrap_i64]; omega
                  have hw2 : IntKind.u64.wrap ((ls : Int) + 1) = (ls : Int) + 1 := by rw [IntKind.wrap_u64]; omega
                  have fz := R.sfz
                  have HJ := hideIt hbj
                  have HF := hideIt hfar
                  have HES := hideIt es
                  have HR := hideIt (And.intro hr1 hr2)
                  have n1 : ¬ (p8 = Sb) := by have := P.hi; have := SLr.hp; omega
                  have n2 : ¬ (Sb = p8) := fun e => n1 e.symm
                  clear hbj hfar es hown0 eL hs' hlj hln hlS hr1 hr2
                  go_wp2_with fail
                  refine wp_region_l (l := 27) (S := (fun w' => w'.cell? ⟨Sb, b, none⟩ = some (.slice ps ls cs) ∧ w'.cell? ⟨p8, 3, none⟩ = some (.int .i64 o.c) ∧ w'.cell? ⟨p8, 4, none⟩ = some (.int .u64 o.x) ∧ w'.cell? ⟨p8, 5, none⟩ = some (.int .u64 o.y))) (by kernel_rfl) ⟨s0, g3, g4, g5⟩ (fun hHeld => ?_)
                  refine AnyL.take (i := 0) (oi := { dst := some 60, op := Go.Op.move (Go.Operand.tmp 12), type := 65, pos := _, after := #[], guard := none }) (v := ?vv1) (by kernel_rfl) rfl (by kernel_rfl) (by kernel_rfl) (by kernel_rfl) (fun _ _ _ h => h) (Or.inl ⟨by rfl, ?hy1⟩) (by assumption) ?tk1
                  case hy1 => (intro w hSw; (try dsimp only at hSw); go_simp; (try with_reducible rfl))
                  try simp only [Act.put, List.setIfInBounds_toArray, List.set_cons_zero, List.set_cons_succ]
                  refine AnyL.take (i := 1) (oi := { dst := some 61, op := Go.Op.move (Go.Operand.tmp 12), type := 65, pos := _, after := #[], guard := none }) (v := ?vv2) (by kernel_rfl) rfl (by kernel_rfl) (by kernel_rfl) (by kernel_rfl) (fun _ _ _ h => h) (Or.inl ⟨by rfl, ?hy2⟩) (by assumption) ?tk2
                  case hy2 => (intro w hSw; (try dsimp only at hSw); go_simp; (try with_reducible rfl))
                  try simp only [Act.put, List.setIfInBounds_toArray, List.set_cons_zero, List.set_cons_succ]
                  refine AnyL.take (i := 2) (oi := { dst := some 62, op := Go.Op.indexAddr 57 (Go.Operand.tmp 4) (Go.Operand.tmp 61), type := 0, pos := _, after := #[{ on := 1, ground := Go.Ground.data }], guard := none }) (v := ?vv3) (by kernel_rfl) rfl (by kernel_rfl) (by kernel_rfl) (by kernel_rfl) (fun _ _ _ h => h) (Or.inl ⟨by rfl, ?hy3⟩) (by assumption) ?tk3
                  case hy3 => (intro w hSw; (try dsimp only at hSw); go_simp; (try with_reducible rfl))
                  try simp only [Act.put, List.setIfInBounds_toArray, List.set_cons_zero, List.set_cons_succ]
                  refine AnyL.take (i := 3) (oi := { dst := some 63, op := Go.Op.load 56 (Go.Operand.tmp 62), type := 56, pos := _, after := #[{ on := 2, ground := Go.Ground.data }], guard := none }) (v := ?vv4) (by kernel_rfl) rfl (by kernel_rfl) (by kernel_rfl) (by kernel_rfl) (fun _ _ _ h => h) (Or.inl ⟨by rfl, ?hy4⟩) (by assumption) ?tk4
                  case hy4 => (intro w hSw; (try dsimp only at hSw); go_simp; (try with_reducible rfl))
                  try simp only [Act.put, List.setIfInBounds_toArray, List.set_cons_zero, List.set_cons_succ]
                  refine AnyL.take (i := 4) (oi := { dst := some 64, op := Go.Op.move (Go.Operand.tmp 12), type := 65, pos := _, after := #[], guard := none }) (v := ?vv5) (by kernel_rfl) rfl (by kernel_rfl) (by kernel_rfl) (by kernel_rfl) (fun _ _ _ h => h) (Or.inl ⟨by rfl, ?hy5⟩) (by assumption) ?tk5
                  case hy5 => (intro w hSw; (try dsimp only at hSw); go_simp; (try with_reducible rfl))
                  try simp only [Act.put, List.setIfInBounds_toArray, List.set_cons_zero, List.set_cons_succ]
                  refine AnyL.take (i := 6) (oi := { dst := some 66, op := Go.Op.move (Go.Operand.tmp 12), type := 65, pos := _, after := #[], guard := none }) (v := ?vv6) (by kernel_rfl) rfl (by kernel_rfl) (by kernel_rfl) (by kernel_rfl) (fun _ _ _ h => h) (Or.inl ⟨by rfl, ?hy6⟩) (by assumption) ?tk6
                  case hy6 => (intro w hSw; (try dsimp only at hSw); go_simp; (try with_reducible rfl))
                  try simp only [Act.put, List.setIfInBounds_toArray, List.set_cons_zero, List.set_cons_succ]
                  refine AnyL.take (i := 8) (oi := { dst := some 68, op := Go.Op.fieldAddr 32 (Go.Operand.tmp 8) 3, type := 0, pos := _, after := #[], guard := none }) (v := ?vv7) (by kernel_rfl) rfl (by kernel_rfl) (by kernel_rfl) (by kernel_rfl) (fun _ _ _ h => h) (Or.inl ⟨by rfl, ?hy7⟩) (by assumption) ?tk7
                  case hy7 => (intro w hSw; (try dsimp only at hSw); go_simp; (try with_reducible rfl))
                  try simp only [Act.put, List.setIfInBounds_toArray, List.set_cons_zero, List.set_cons_succ]
                  refine AnyL.take (i := 9) (oi := { dst := some 69, op := Go.Op.load 2 (Go.Operand.tmp 68), type := 2, pos := _, after := #[{ on := 8, ground := Go.Ground.data }], guard := none }) (v := ?vv8) (by kernel_rfl) rfl (by kernel_rfl) (by kernel_rfl) (by kernel_rfl) (fun _ _ _ h => h) (Or.inl ⟨by rfl, ?hy8⟩) (by assumption) ?tk8
                  case hy8 => (intro w hSw; (try dsimp only at hSw); go_simp; (try with_reducible rfl))
                  try simp only [Act.put, List.setIfInBounds_toArray, List.set_cons_zero, List.set_cons_succ]
                  refine AnyL.take (i := 10) (oi := { dst := some 70, op := Go.Op.convert 2 37 (Go.Operand.tmp 69), type := 37, pos := _, after := #[{ on := 9, ground := Go.Ground.data }], guard := none }) (v := ?vv9) (by kernel_rfl) rfl (by kernel_rfl) (by kernel_rfl) (by kernel_rfl) (fun _ _ _ h => h) (Or.inl ⟨by rfl, ?hy9⟩) (by assumption) ?tk9
                  case hy9 => (intro w hSw; (try dsimp only at hSw); go_simp; (try with_reducible rfl))
                  try simp only [Act.put, List.setIfInBounds_toArray, List.set_cons_zero, List.set_cons_succ]
                  refine AnyL.take (i := 11) (oi := { dst := some 71, op := Go.Op.move (Go.Operand.tmp 12), type := 65, pos := _, after := #[], guard := none }) (v := ?vv10) (by kernel_rfl) rfl (by kernel_rfl) (by kernel_rfl) (by kernel_rfl) (fun _ _ _ h => h) (Or.inl ⟨by rfl, ?hy10⟩) (by assumption) ?tk10
                  case hy10 => (intro w hSw; (try dsimp only at hSw); go_simp; (try with_reducible rfl))
                  try simp only [Act.put, List.setIfInBounds_toArray, List.set_cons_zero, List.set_cons_succ]
                  refine AnyL.take (i := 12) (oi := { dst := some 72, op := Go.Op.indexAddr 57 (Go.Operand.tmp 4) (Go.Operand.tmp 71), type := 0, pos := _, after := #[{ on := 11, ground := Go.Ground.data }], guard := none }) (v := ?vv11) (by kernel_rfl) rfl (by kernel_rfl) (by kernel_rfl) (by kernel_rfl) (fun _ _ _ h => h) (Or.inl ⟨by rfl, ?hy11⟩) (by assumption) ?tk11
                  case hy11 => (intro w hSw; (try dsimp only at hSw); go_simp; (try with_reducible rfl))
                  try simp only [Act.put, List.setIfInBounds_toArray, List.set_cons_zero, List.set_cons_succ]
                  refine AnyL.take (i := 13) (oi := { dst := some 73, op := Go.Op.load 56 (Go.Operand.tmp 72), type := 56, pos := _, after := #[{ on := 12, ground := Go.Ground.data }], guard := none }) (v := ?vv12) (by kernel_rfl) rfl (by kernel_rfl) (by kernel_rfl) (by kernel_rfl) (fun _ _ _ h => h) (Or.inl ⟨by rfl, ?hy12⟩) (by assumption) ?tk12
                  case hy12 => (intro w hSw; (try dsimp only at hSw); go_simp; (try with_reducible rfl))
                  try simp only [Act.put, List.setIfInBounds_toArray, List.set_cons_zero, List.set_cons_succ]
                  refine AnyL.take (i := 14) (oi := { dst := some 74, op := Go.Op.call { callee := Go.Callee.builtin Go.Builtin.len, args := #[Go.Operand.tmp 73], argTypes := #[56] }, type := 3, pos := _, after := #[{ on := 13, ground := Go.Ground.data }], guard := none }) (v := ?vv13) (by kernel_rfl) rfl (by kernel_rfl) (by kernel_rfl) (by kernel_rfl) (fun _ _ _ h => h) (Or.inl ⟨by rfl, ?hy13⟩) (by assumption) ?tk13
                  case hy13 => (intro w hSw; (try dsimp only at hSw); go_simp; (try with_reducible rfl))
                  try simp only [Act.put, List.setIfInBounds_toArray, List.set_cons_zero, List.set_cons_succ]
                  refine AnyL.take (i := 15) (oi := { dst := some 75, op := Go.Op.binOp Go.BinOp.add 3 (Go.Operand.tmp 74) (Go.Operand.const (Go.Value.int Go.IntKind.i64 1)) 3, type := 3, pos := _, after := #[{ on := 14, ground := Go.Ground.data }], guard := none }) (v := ?vv14) (by kernel_rfl) rfl (by kernel_rfl) (by kernel_rfl) (by kernel_rfl) (fun _ _ _ h => h) (Or.inl ⟨by rfl, ?hy14⟩) (by assumption) ?tk14
                  case hy14 => (intro w hSw; (try dsimp only at hSw); go_simp; (try with_reducible rfl))
                  try simp only [Act.put, List.setIfInBounds_toArray, List.set_cons_zero, List.set_cons_succ]
                  refine AnyL.take (i := 16) (oi := { dst := some 76, op := Go.Op.convert 3 28 (Go.Operand.tmp 75), type := 28, pos := _, after := #[{ on := 15, ground := Go.Ground.data }], guard := none }) (v := ?vv15) (by kernel_rfl) rfl (by kernel_rfl) (by kernel_rfl) (by kernel_rfl) (fun _ _ _ h => h) (Or.inl ⟨by rfl, ?hy15⟩) (by assumption) ?tk15
                  case hy15 => (intro w hSw; (try dsimp only at hSw); go_simp; (try with_reducible rfl))
                  try simp only [Act.put, List.setIfInBounds_toArray, List.set_cons_zero, List.set_cons_succ]
                  refine AnyL.take (i := 17) (oi := { dst := some 77, op := Go.Op.move (Go.Operand.tmp 9), type := 29, pos := _, after := #[], guard := none }) (v := ?vv16) (by kernel_rfl) rfl (by kernel_rfl) (by kernel_rfl) (by kernel_rfl) (fun _ _ _ h => h) (Or.inl ⟨by rfl, ?hy16⟩) (by assumption) ?tk16
                  case hy16 => (intro w hSw; (try dsimp only at hSw); go_simp; (try with_reducible rfl))
                  try simp only [Act.put, List.setIfInBounds_toArray, List.set_cons_zero, List.set_cons_succ]
                  refine AnyL.take (i := 18) (oi := { dst := some 78, op := Go.Op.fieldAddr 32 (Go.Operand.tmp 8) 4, type := 0, pos := _, after := #[], guard := none }) (v := ?vv17) (by kernel_rfl) rfl (by kernel_rfl) (by kernel_rfl) (by kernel_rfl) (fun _ _ _ h => h) (Or.inl ⟨by rfl, ?hy17⟩) (by assumption) ?tk17
                  case hy17 => (intro w hSw; (try dsimp only at hSw); go_simp; (try with_reducible rfl))
                  try simp only [Act.put, List.setIfInBounds_toArray, List.set_cons_zero, List.set_cons_succ]
                  refine AnyL.take (i := 19) (oi := { dst := some 79, op := Go.Op.load 28 (Go.Operand.tmp 78), type := 28, pos := _, after := #[{ on := 18, ground := Go.Ground.data }], guard := none }) (v := ?vv18) (by kernel_rfl) rfl (by kernel_rfl) (by kernel_rfl) (by kernel_rfl) (fun _ _ _ h => h) (Or.inl ⟨by rfl, ?hy18⟩) (by assumption) ?tk18
                  case hy18 => (intro w hSw; (try dsimp only at hSw); go_simp; (try with_reducible rfl))
                  try simp only [Act.put, List.setIfInBounds_toArray, List.set_cons_zero, List.set_cons_succ]
                  refine AnyL.take (i := 20) (oi := { dst := some 80, op := Go.Op.fieldAddr 32 (Go.Operand.tmp 8) 5, type := 0, pos := _, after := #[], guard := none }) (v := ?vv19) (by kernel_rfl) rfl (by kernel_rfl) (by kernel_rfl) (by kernel_rfl) (fun _ _ _ h => h) (Or.inl ⟨by rfl, ?hy19⟩) (by assumption) ?tk19
                  case hy19 => (intro w hSw; (try dsimp only at hSw); go_simp; (try with_reducible rfl))
                  try simp only [Act.put, List.setIfInBounds_toArray, List.set_cons_zero, List.set_cons_succ]
                  refine AnyL.take (i := 21) (oi := { dst := some 81, op := Go.Op.load 28 (Go.Operand.tmp 80), type := 28, pos := _, after := #[{ on := 20, ground := Go.Ground.data }], guard := none }) (v := ?vv20) (by kernel_rfl) rfl (by kernel_rfl) (by kernel_rfl) (by kernel_rfl) (fun _ _ _ h => h) (Or.inl ⟨by rfl, ?hy20⟩) (by assumption) ?tk20
                  case hy20 => (intro w hSw; (try dsimp only at hSw); go_simp; (try with_reducible rfl))
                  try simp only [Act.put, List.setIfInBounds_toArray, List.set_cons_zero, List.set_cons_succ]
                  refine AnyL.take (i := 22) (oi := { dst := some 82, op := Go.Op.build 38 #[(0, Go.Operand.tmp 79), (1, Go.Operand.tmp 81)], type := 38, pos := _, after := #[{ on := 19, ground := Go.Ground.data }, { on := 21, ground := Go.Ground.data }], guard := none }) (v := ?vv21) (by kernel_rfl) rfl (by kernel_rfl) (by kernel_rfl) (by kernel_rfl) (fun _ _ _ h => h) (Or.inl ⟨by rfl, ?hy21⟩) (by assumption) ?tk21
                  case hy21 => (intro w hSw; (try dsimp only at hSw); go_simp; (try with_reducible rfl))
                  try simp only [Act.put, List.setIfInBounds_toArray, List.set_cons_zero, List.set_cons_succ]
                  refine AnyL.one (i := 5) (o := { dst := some 65, op := Go.Op.call { callee := Go.Callee.value (Go.Operand.func 30), args := #[Go.Operand.tmp 64], argTypes := #[65] }, type := 34, pos := _, after := #[{ on := 4, ground := Go.Ground.data }], guard := none }) (by kernel_rfl) rfl rfl (fun K' hK' => ?_)
                  go_simp
                  go_at_call 30
                  refine (from_any hb16).mono ?_
                  rintro e wq ⟨rfl, rfl⟩
                  clear hHeld
                  refine hK'.out _ _ ⟨s0, g3, g4, g5⟩ (fun hHeld => ?_)
                  clear hK' K'
                  try simp only [Act.put, List.setIfInBounds_toArray, List.set_cons_zero, List.set_cons_succ]
                  refine AnyL.one (i := 7) (o := { dst := some 67, op := Go.Op.call { callee := Go.Callee.value (Go.Operand.func 27), args := #[Go.Operand.tmp 66], argTypes := #[65] }, type := 34, pos := _, after := #[{ on := 6, ground := Go.Ground.data }, { on := 5, ground := Go.Ground.chain }], guard := none }) (by kernel_rfl) rfl rfl (fun K' hK' => ?_)
                  go_simp
                  go_at_call 27
                  refine (to_any hb16).mono ?_
                  rintro e wq ⟨rfl, rfl⟩
                  clear hHeld
                  refine hK'.out _ _ ⟨s0, g3, g4, g5⟩ (fun hHeld => ?_)
                  clear hK' K'
                  try simp only [Act.put, List.setIfInBounds_toArray, List.set_cons_zero, List.set_cons_succ]
                  refine AnyL.take (i := 23) (oi := { dst := some 83, op := Go.Op.build 40 #[(0, Go.Operand.tmp 65), (1, Go.Operand.tmp 67), (2, Go.Operand.tmp 70), (3, Go.Operand.tmp 76), (4, Go.Operand.tmp 77), (5, Go.Operand.tmp 82)], type := 40, pos := _, after := #[{ on := 5, ground := Go.Ground.data }, { on := 7, ground := Go.Ground.data }, { on := 10, ground := Go.Ground.data }, { on := 16, ground := Go.Ground.data }, { on := 17, ground := Go.Ground.data }, { on := 22, ground := Go.Ground.data }], guard := none }) (v := ?vv22) (by kernel_rfl) rfl (by kernel_rfl) (by kernel_rfl) (by kernel_rfl) (fun _ _ _ h => h) (Or.inl ⟨by rfl, ?hy22⟩) (by assumption) ?tk22
                  case hy22 => (intro w hSw; (try dsimp only at hSw); go_simp; (try with_reducible rfl))
                  try simp only [Act.put, List.setIfInBounds_toArray, List.set_cons_zero, List.set_cons_succ]
                  refine AnyL.one (i := 24) (o := { dst := some 84, op := Go.Op.buildSlice 56 1 #[(0, Go.Operand.tmp 83)], type := 56, pos := _, after := #[{ on := 23, ground := Go.Ground.data }], guard := none }) (by kernel_rfl) rfl rfl (fun K' hK' => ?_)
                  go_simp
                  clear hHeld
                  refine hK'.out _ _ (by refine ⟨?_, ?_, ?_, ?_⟩ <;> go_simp) (fun hHeld => ?_)
                  clear hK' K'
                  try simp only [Act.put, List.setIfInBounds_toArray, List.set_cons_zero, List.set_cons_succ]
                  refine AnyL.one (i := 25) (o := { dst := some 85, op := Go.Op.call { callee := Go.Callee.builtin Go.Builtin.append, args := #[Go.Operand.tmp 63, Go.Operand.tmp 84], argTypes := #[56, 56] }, type := 56, pos := _, after := #[{ on := 3, ground := Go.Ground.data }, { on := 24, ground := Go.Ground.data }, { on := 7, ground := Go.Ground.chain }], guard := none }) (by kernel_rfl) rfl rfl (fun K' hK' => ?_)
                  refine ite_take (by rfl) ?_
                  refine wp_append_own_at (.tmp 63) (.tmp 84) 56 rfl base 40 i0_ (.agg #[.int .i64 0, .int .i64 0, .int .u32 0, .int .u64 0, .int .u64 0, .int .u64 0, .int .u64 0, .int .u64 0, .int .u64 0]) 9 72 Tryz.underlying56 hi_ hz0 hz1 hz2 rfl (by decide) (.slice ps ls cs) ls (msgCells LL) rfl (hown.alloc _) ⟨wr.heap.size, 0, none⟩ 1 1 (msg9 (⟨((b / 4 : Nat) : Int), ((b % 4 : Nat) : Int), o.c, (ls : Int) + 1, (t : Int), (o.x : Int), (o.y : Int), 0, 0⟩ : MsgV)) rfl rfl (cell_nine_new _ (⟨((b / 4 : Nat) : Int), ((b % 4 : Nat) : Int), o.c, (ls : Int) + 1, (t : Int), (o.x : Int), (o.y : Int), 0, 0⟩ : MsgV) _) (msg9_one _) (by unfold maxLen; omega) (by omega) (by simp; omega) ?_
                  intro v' w3 hown' hgrow hblk
                  obtain ⟨p', c', rfl⟩ := own_shape hown'
                  have fz3 : ∀ o, w3.frozen? ⟨Sb, o, none⟩ = false := fun o => (pushed_frozen hgrow hSbr HR.out.1 o).trans (fz o)
                  have k0 := hgrow.cell (a := ⟨Sb, b, none⟩) hHeld.1 HR.out.1
                  have k3 := hgrow.cell (a := ⟨p8, 3, none⟩) hHeld.2.1 HR.out.2
                  have k4 := hgrow.cell (a := ⟨p8, 4, none⟩) hHeld.2.2.1 HR.out.2
                  have k5 := hgrow.cell (a := ⟨p8, 5, none⟩) hHeld.2.2.2 HR.out.2
                  have HG := hideIt (And.intro hown' (And.intro hgrow hblk))
                  clear hown' hgrow hblk
                  clear hHeld
                  refine hK'.out _ _ ⟨k0, k3, k4, k5⟩ (fun hHeld => ?_)
                  clear hK' K'
                  try simp only [Act.put, List.setIfInBounds_toArray, List.set_cons_zero, List.set_cons_succ]
                  refine AnyL.take (i := 26) (oi := { dst := some 86, op := Go.Op.indexAddr 57 (Go.Operand.tmp 4) (Go.Operand.tmp 60), type := 0, pos := _, after := #[{ on := 0, ground := Go.Ground.data }, { on := 0, ground := Go.Ground.phase }, { on := 1, ground := Go.Ground.phase }, { on := 2, ground := Go.Ground.phase }, { on := 3, ground := Go.Ground.phase }, { on := 4, ground := Go.Ground.phase }, { on := 5, ground := Go.Ground.phase }, { on := 6, ground := Go.Ground.phase }, { on := 7, ground := Go.Ground.phase }, { on := 8, ground := Go.Ground.phase }, { on := 9, ground := Go.Ground.phase }, { on := 10, ground := Go.Ground.phase }, { on := 11, ground := Go.Ground.phase }, { on := 12, ground := Go.Ground.phase }, { on := 13, ground := Go.Ground.phase }, { on := 14, ground := Go.Ground.phase }, { on := 15, ground := Go.Ground.phase }, { on := 16, ground := Go.Ground.phase }, { on := 17, ground := Go.Ground.phase }, { on := 18, ground := Go.Ground.phase }, { on := 19, ground := Go.Ground.phase }, { on := 20, ground := Go.Ground.phase }, { on := 21, ground := Go.Ground.phase }, { on := 22, ground := Go.Ground.phase }, { on := 23, ground := Go.Ground.phase }, { on := 24, ground := Go.Ground.phase }, { on := 25, ground := Go.Ground.phase }], guard := none }) (v := ?vv23) (by kernel_rfl) rfl (by kernel_rfl) (by kernel_rfl) (by kernel_rfl) (fun _ _ _ h => h) (Or.inl ⟨by rfl, ?hy23⟩) (by assumption) ?tk23
                  case hy23 => (intro w hSw; (try dsimp only at hSw); go_simp; (try with_reducible rfl))
                  try simp only [Act.put, List.setIfInBounds_toArray, List.set_cons_zero, List.set_cons_succ]
                  refine AnyL.last (o := { dst := none, op := Go.Op.store 56 (Go.Operand.tmp 86) (Go.Operand.tmp 85), type := 0, pos := _, after := #[{ on := 26, ground := Go.Ground.data }, { on := 25, ground := Go.Ground.data }, { on := 25, ground := Go.Ground.chain }, { on := 0, ground := Go.Ground.phase }, { on := 1, ground := Go.Ground.phase }, { on := 2, ground := Go.Ground.phase }, { on := 3, ground := Go.Ground.phase }, { on := 4, ground := Go.Ground.phase }, { on := 5, ground := Go.Ground.phase }, { on := 6, ground := Go.Ground.phase }, { on := 7, ground := Go.Ground.phase }, { on := 8, ground := Go.Ground.phase }, { on := 9, ground := Go.Ground.phase }, { on := 10, ground := Go.Ground.phase }, { on := 11, ground := Go.Ground.phase }, { on := 12, ground := Go.Ground.phase }, { on := 13, ground := Go.Ground.phase }, { on := 14, ground := Go.Ground.phase }, { on := 15, ground := Go.Ground.phase }, { on := 16, ground := Go.Ground.phase }, { on := 17, ground := Go.Ground.phase }, { on := 18, ground := Go.Ground.phase }, { on := 19, ground := Go.Ground.phase }, { on := 20, ground := Go.Ground.phase }, { on := 21, ground := Go.Ground.phase }, { on := 22, ground := Go.Ground.phase }, { on := 23, ground := Go.Ground.phase }, { on := 24, ground := Go.Ground.phase }, { on := 25, ground := Go.Ground.phase }], guard := none }) (by kernel_rfl) rfl (by kernel_rfl) (fun K' hK' => ?_)
                  go_simp
                  clear hHeld
                  refine hK'.out _ _ ?_
                  clear hK' K'
                  try simp only [Act.put, List.setIfInBounds_toArray, List.set_cons_zero, List.set_cons_succ]
                  go_wp2
                  go_roundg (l.length - (j + 1))
                  case measure => omega
                  case rel =>
                    obtain ⟨ho, hg, hk⟩ := HG.out
                    rw [← HES.out] at hg hk
                    have hpush := SLr.push P R HF.out hb16 (mm := (⟨((b / 4 : Nat) : Int), ((b % 4 : Nat) : Int), o.c, (ls : Int) + 1, (t : Int), (o.x : Int), (o.y : Int), 0, 0⟩ : MsgV)) (by rw [HLL.out, HLS.out]; exact ho) hg hk
                    refine ⟨j + 1, by omega, by go_num, ?_⟩
                    rw [take_snoc HJ.out, sendAll_snoc]
                    have e : lawMsg (sendAll o.c t o.x o.y S (l.take j)) b o.c t o.x o.y = (⟨((b / 4 : Nat) : Int), ((b % 4 : Nat) : Int), o.c, (ls : Int) + 1, (t : Int), (o.x : Int), (o.y : Int), 0, 0⟩ : MsgV) := by unfold lawMsg; rw [HLL.out, HLS.out]
                    rw [sendOne, e]
                    first | exact hpush | exact hpush.drew
                · have e : j = l.length := by omega
                  subst e
                  go_wp2
                  go_meet
                  case rel =>
                    rw [List.take_length] at SLr
                    exact ⟨_, ν', _, g, SLr.done (fun i => sendAll_pre o.c t o.x o.y l S i) hgle.out HT.out.2.2.2⟩
            · have hνν : ν' = ν := by
                by_cases hkk : o.kd = 4 ∨ o.kd = 5
                · exact (HS.out.1 hkk).kept (fun e => hsd ⟨hkk, e⟩)
                · exact HS.out.2 hkk
              rw [hνν] at M
              have HSD := hideIt hsd
              clear hsd HS hνν
              go_upto_region 16 with fail
              go_cut [52] (fun a52 wd => a52 = .bool false ∧ wd = wc)
              case first =>
                by_cases hk4 : o.kd = 4
                · have hz : (z == 0) = false := by
                    have := HSD.out
                    simp; intro e; exact this ⟨.inl hk4, e⟩
                  rw [hk4] at g0
                  clear hk4
                  go_wp2
                  go_meet
                  case rel => exact ⟨rfl, rfl⟩
                · have e4 : (((o.kd : Nat) : Int) == 4) = false := by simp; omega
                  by_cases hk5 : o.kd = 5
                  · have hz : (z == 0) = false := by
                      have := HSD.out
                      simp; intro e; exact this ⟨.inr hk5, e⟩
                    rw [hk5] at g0
                    clear hk4 hk5 e4
                    go_wp2
                    go_meet
                    case rel => exact ⟨rfl, rfl⟩
                  · have e5 : (((o.kd : Nat) : Int) == 5) = false := by simp; omega
                    clear hk4 hk5
                    go_wp2
                    go_meet
                    case rel => exact ⟨rfl, rfl⟩
              case rest =>
              obtain ⟨rfl, hwc⟩ := hcut
              subst hwc
              go_wp2
              go_meet
              case rel =>
                have := hbw.size
                have := P.hi
                exact ⟨_, ν, S, g, M, hN, ⟨V, R⟩, hmc, hbw, by omega⟩
        case rest =>
          obtain ⟨t', ν', S', g', H'⟩ := hcut
          go_wp2
          go_roundg (n - (i + 1))
          case measure => omega
          case rel => exact ⟨i + 1, t', ν', S', g', by omega, by go_num, H'⟩
      · have e : i = n := by omega
        subst e
        go_wp2_with fail
        go_loopg [89] 16 (fun gg v wr => ∃ (b t : Nat) (ν : Net) (S : Nat → List MsgV) (g : Nat → Nat), b + gg = 16 ∧ v = .int .i64 (b : Int) ∧ LS w.heap.size w wr B mb t (4 * i + 132 * b) ν base Sb Gb mc S g ∧ Hid (∀ q, q < b → g q = (S q).length))
        case atStart => exact ⟨0, t, ν, S, g, by omega, rfl, H, hideIt (fun q hq => by omega)⟩
        case round =>
          clear H
          obtain ⟨b, t, ν, S, g, hbg, rfl, H, HQ⟩ := hrel
          by_cases hb16 : b < 16
          · have b0 : (0 : Int) ≤ b := by omega
            have b1 : (b : Int) < 16 := by omega
            go_upto_block 5 with fail
            go_cut [] (fun wc => ∃ (ν' : Net) (g' : Nat → Nat), LS w.heap.size w wc B mb t (4 * i + 132 * (b + 1)) ν' base Sb Gb mc S g' ∧ Hid (∀ q, q < b + 1 → g' q = (S q).length))
            case first =>
              go_wp2_with fail
              go_loopg [] ((S b).length - g b) (fun gg wr => ∃ (j : Nat) (ν : Net) (g : Nat → Nat), gg = (S b).length - g b ∧ j + gg ≤ 32 ∧ g b ≤ (S b).length ∧ LS w.heap.size w wr B mb t (4 * i + 132 * b + 4 * j) ν base Sb Gb mc S g ∧ Hid (∀ q, q < b → g q = (S q).length))
              case atStart =>
                have hle := H.n.le b hb16
                obtain ⟨_, _, _, _, hl32, _⟩ := H.n.box b hb16
                rw [List.length_drop] at hl32
                exact ⟨0, ν, g, rfl, by omega, hle, H, HQ⟩
              case round =>
                clear H HQ
                obtain ⟨j, ν, g, rfl, hj, hle, H, HQ⟩ := hrel
                obtain ⟨V, R⟩ := H.r
                obtain ⟨pg, cg, eg⟩ := R.shape (r := 16 + b) (by omega)
                rw [rows_len_g hle] at eg
                obtain ⟨ps, cs, es⟩ := R.shape (r := b) (by omega)
                rw [rows_len_s hb16] at es
                have cg0 : wr.cell? ⟨Gb, b, none⟩ = some (.slice pg (g b) cg) := by have := R.cell (16 + b) (by omega); rw [rowA_g, eg] at this; exact this
                have cs0 : wr.cell? ⟨Sb, b, none⟩ = some (.slice ps (S b).length cs) := by have := R.cell b (by omega); rw [rowA_s hb16, es] at this; exact this
                obtain ⟨gi, HGI⟩ : ∃ gi, Hid (g b = gi) := ⟨_, hideIt rfl⟩
                obtain ⟨ln, HLN⟩ : ∃ ln, Hid ((S b).length = ln) := ⟨_, hideIt rfl⟩
                rw [HGI.out] at cg0
                rw [HLN.out] at cs0
                by_cases hlt : g b < (S b).length
                · have hd : (gi : Int) < (ln : Int) := by rw [← HGI.out, ← HLN.out]; omega
                  have htk := got_any P H R (by omega) (b : Int)
                  have HLT := hideIt hlt
                  clear hlt
                  clear htk
                  have htk := fun n => got_any (w := World.drewN wr n) P (H.drewN n) (R.drewN n) (by omega) (b : Int)
                  go_wp2_with fail
                  go_quiet (fail)
                  go_wp2_with fail
                  refine (htk _).mono ?_
                  rintro e w2 ⟨rfl, i', ν2, hi', ei', H2, _⟩
                  have e' : i' = b := by omega
                  subst e'
                  rw [takeG, if_pos HLT.out] at H2
                  clear ei' htk H R cg0 cs0 hd
                  go_wp2
                  go_roundg ((S i').length - g i' - 1)
                  case measure => have := HLT.out; omega
                  case rel =>
                    have hlt := HLT.out
                    exact ⟨j + 1, ν2, upd g i' (g i' + 1), by rw [upd_same]; omega, by omega, by rw [upd_same]; omega, H2.mono (by omega), hideIt (fun q hq => by rw [upd_other _ _ (by omega)]; exact HQ.out q hq)⟩
                · have hd : ¬ ((gi : Int) < (ln : Int)) := by rw [← HGI.out, ← HLN.out]; omega
                  have hge : g b = (S b).length := by omega
                  have hbig := H.len hb16
                  have HX : Hid (∀ (i' : Nat) (w2 : World) (ν2 : Net), (b : Int) % 16 = i' → LS w.heap.size w w2 B mb t (4 * i + 132 * b + 4 * j + 4) ν2 base Sb Gb mc S (takeG S g i') → (¬ g i' < (S i').length → Rws w2 base Sb Gb V (rowsOf S g)) → Rws w2 base Sb Gb V (rowsOf S g) ∧ LS w.heap.size w w2 B mb t (4 * i + 132 * b + 4 * j + 4) ν2 base Sb Gb mc S g ∧ w2.cell? ⟨Gb, b, none⟩ = some (.slice pg gi cg) ∧ w2.cell? ⟨Sb, b, none⟩ = some (.slice ps ln cs)) := hideIt (fun i' w2 ν2 ei' H2 hR2 => by
                    have e' : i' = b := by omega
                    subst e'
                    rw [takeG, if_neg hlt] at H2
                    have R2 := hR2 hlt
                    refine ⟨R2, H2, ?_, ?_⟩
                    · have := R2.cell (16 + i') (by omega); rw [rowA_g, eg, HGI.out] at this; exact this
                    · have := R2.cell i' (by omega); rw [rowA_s hb16, es, HLN.out] at this; exact this)
                  have HQ2 : Hid (∀ w2, Rws w2 base Sb Gb V (rowsOf S g) → Calls Tryz.prog 31 #[.slice pg gi cg, .slice ps ln cs] w2 fun e w' => e = .returned (.bool true) ∧ Below w2.heap.size w2 w') := hideIt (fun w2 R2 => by
                    have := equal_any R2 (r := 16 + b) (s := b) (by omega) (by omega) (by rw [rowsOf_g, rowsOf_s _ _ hb16, hge, List.take_length]) (by rw [rows_len_g hle]; omega)
                    rw [eg, es, HGI.out, HLN.out] at this
                    exact this)
                  have HLE := hideIt hge
                  clear hlt hge eg es hbig
                  go_wp2_with fail
                  go_quiet (fail)
                  go_wp2_with fail
                  generalize hW9 : World.drewN wr _ = W9
                  have H9 : LS w.heap.size w W9 B mb t (4 * i + 132 * b + 4 * j) ν base Sb Gb mc S g := hW9 ▸ H.drewN _
                  have R9 : Rws W9 base Sb Gb V (rowsOf S g) := hW9 ▸ R.drewN _
                  have cg9 : W9.cell? ⟨Gb, b, none⟩ = some (.slice pg gi cg) := hW9 ▸ cg0
                  have cs9 : W9.cell? ⟨Sb, b, none⟩ = some (.slice ps ln cs) := hW9 ▸ cs0
                  clear hW9 H R cg0 cs0 hd
                  refine wp_region_held_drew (S := (fun w' => w'.cell? ⟨Gb, b, none⟩ = some (.slice pg gi cg) ∧ w'.cell? ⟨Sb, b, none⟩ = some (.slice ps ln cs))) (by kernel_rfl) ⟨cg9, cs9⟩ (fun hHeld => ?_)
                  refine wpAnyH_take (i := 0) (oi := { dst := some 105, op := Go.Op.move (Go.Operand.tmp 6), type := 68, pos := _, after := #[], guard := none }) (v := ?vv24) rfl (by kernel_rfl) (by kernel_rfl) (by kernel_rfl) (fun _ _ _ h => h) (Or.inl ⟨by rfl, ?hy24⟩) (by assumption) ?tk24
                  case hy24 => (intro w hSw; (try dsimp only at hSw); go_simp; (try with_reducible rfl))
                  try simp only [Act.put, List.setIfInBounds_toArray, List.set_cons_zero, List.set_cons_succ]
                  refine wpAnyH_take (i := 1) (oi := { dst := some 106, op := Go.Op.move (Go.Operand.tmp 13), type := 3, pos := _, after := #[], guard := none }) (v := ?vv25) rfl (by kernel_rfl) (by kernel_rfl) (by kernel_rfl) (fun _ _ _ h => h) (Or.inl ⟨by rfl, ?hy25⟩) (by assumption) ?tk25
                  case hy25 => (intro w hSw; (try dsimp only at hSw); go_simp; (try with_reducible rfl))
                  try simp only [Act.put, List.setIfInBounds_toArray, List.set_cons_zero, List.set_cons_succ]
                  refine wpAnyH_ready (rs := [2]) (by kernel_rfl) (by simp) ?_
                  refine AllReadyH.cons (o := { dst := some 107, op := Go.Op.call { callee := Go.Callee.value (Go.Operand.tmp 105), args := #[Go.Operand.tmp 106], argTypes := #[2] }, type := 4, pos := _, after := #[{ on := 0, ground := Go.Ground.data }, { on := 1, ground := Go.Ground.data }], guard := none }) rfl (fun K' hK' => ?_) AllReadyH.nil
                  go_simp
                  go_at_call 25
                  refine (got_any (w := World.drew W9) P H9.drew R9.drew (by omega) _).mono ?_
                  rintro e w2 ⟨rfl, i', ν2, hi', ei', H2, hR2⟩
                  obtain ⟨R2, H2', cg2, cs2⟩ := HX.out i' w2 ν2 ei' H2 hR2
                  clear H2 hR2 ei' hi'
                  clear hHeld
                  refine hK'.out _ _ ⟨cg2, cs2⟩ (fun hHeld => ?_)
                  clear hK' K'
                  try simp only [Act.put, List.setIfInBounds_toArray, List.set_cons_zero, List.set_cons_succ]
                  refine wpAnyH_take (i := 3) (oi := { dst := some 108, op := Go.Op.unOp Go.UnOp.not 4 (Go.Operand.tmp 107), type := 4, pos := _, after := #[{ on := 2, ground := Go.Ground.data }], guard := none }) (v := ?vv26) rfl (by kernel_rfl) (by kernel_rfl) (by kernel_rfl) (fun _ _ _ h => h) (Or.inl ⟨by rfl, ?hy26⟩) (by assumption) ?tk26
                  case hy26 => (intro w hSw; (try dsimp only at hSw); go_simp; (try with_reducible rfl))
                  try simp only [Act.put, List.setIfInBounds_toArray, List.set_cons_zero, List.set_cons_succ]
                  refine wpAnyH_take (i := 4) (oi := { dst := some 109, op := Go.Op.move (Go.Operand.tmp 108), type := 4, pos := _, after := #[{ on := 3, ground := Go.Ground.data }, { on := 2, ground := Go.Ground.chain }], guard := none }) (v := ?vv27) rfl (by kernel_rfl) (by kernel_rfl) (by kernel_rfl) (fun _ _ _ h => h) (Or.inl ⟨by rfl, ?hy27⟩) (by assumption) ?tk27
                  case hy27 => (intro w hSw; (try dsimp only at hSw); go_simp; (try with_reducible rfl))
                  try simp only [Act.put, List.setIfInBounds_toArray, List.set_cons_zero, List.set_cons_succ]
                  refine wpAnyH_take (i := 5) (oi := { dst := some 110, op := Go.Op.move (Go.Operand.tmp 13), type := 3, pos := _, after := #[{ on := 4, ground := Go.Ground.guard }], guard := some (4, false) }) (v := ?vv28) rfl (by kernel_rfl) (by kernel_rfl) (by kernel_rfl) (fun _ _ _ h => h) (Or.inl ⟨by rfl, ?hy28⟩) (by assumption) ?tk28
                  case hy28 => (intro w hSw; (try dsimp only at hSw); go_simp; (try with_reducible rfl))
                  try simp only [Act.put, List.setIfInBounds_toArray, List.set_cons_zero, List.set_cons_succ]
                  refine wpAnyH_take (i := 6) (oi := { dst := some 111, op := Go.Op.indexAddr 57 (Go.Operand.tmp 5) (Go.Operand.tmp 110), type := 0, pos := _, after := #[{ on := 5, ground := Go.Ground.data }, { on := 4, ground := Go.Ground.guard }], guard := some (4, false) }) (v := ?vv29) rfl (by kernel_rfl) (by kernel_rfl) (by kernel_rfl) (fun _ _ _ h => h) (Or.inl ⟨by rfl, ?hy29⟩) (by assumption) ?tk29
                  case hy29 => (intro w hSw; (try dsimp only at hSw); go_simp; (try with_reducible rfl))
                  try simp only [Act.put, List.setIfInBounds_toArray, List.set_cons_zero, List.set_cons_succ]
                  refine wpAnyH_take (i := 7) (oi := { dst := some 112, op := Go.Op.load 56 (Go.Operand.tmp 111), type := 56, pos := _, after := #[{ on := 6, ground := Go.Ground.data }, { on := 4, ground := Go.Ground.guard }], guard := some (4, false) }) (v := ?vv30) rfl (by kernel_rfl) (by kernel_rfl) (by kernel_rfl) (fun _ _ _ h => h) (Or.inl ⟨by rfl, ?hy30⟩) (by assumption) ?tk30
                  case hy30 => (intro w hSw; (try dsimp only at hSw); go_simp; (try with_reducible rfl))
                  try simp only [Act.put, List.setIfInBounds_toArray, List.set_cons_zero, List.set_cons_succ]
                  refine wpAnyH_take (i := 8) (oi := { dst := some 113, op := Go.Op.move (Go.Operand.tmp 13), type := 3, pos := _, after := #[{ on := 4, ground := Go.Ground.guard }], guard := some (4, false) }) (v := ?vv31) rfl (by kernel_rfl) (by kernel_rfl) (by kernel_rfl) (fun _ _ _ h => h) (Or.inl ⟨by rfl, ?hy31⟩) (by assumption) ?tk31
                  case hy31 => (intro w hSw; (try dsimp only at hSw); go_simp; (try with_reducible rfl))
                  try simp only [Act.put, List.setIfInBounds_toArray, List.set_cons_zero, List.set_cons_succ]
                  refine wpAnyH_take (i := 9) (oi := { dst := some 114, op := Go.Op.indexAddr 57 (Go.Operand.tmp 4) (Go.Operand.tmp 113), type := 0, pos := _, after := #[{ on := 8, ground := Go.Ground.data }, { on := 4, ground := Go.Ground.guard }], guard := some (4, false) }) (v := ?vv32) rfl (by kernel_rfl) (by kernel_rfl) (by kernel_rfl) (fun _ _ _ h => h) (Or.inl ⟨by rfl, ?hy32⟩) (by assumption) ?tk32
                  case hy32 => (intro w hSw; (try dsimp only at hSw); go_simp; (try with_reducible rfl))
                  try simp only [Act.put, List.setIfInBounds_toArray, List.set_cons_zero, List.set_cons_succ]
                  refine wpAnyH_take (i := 10) (oi := { dst := some 115, op := Go.Op.load 56 (Go.Operand.tmp 114), type := 56, pos := _, after := #[{ on := 9, ground := Go.Ground.data }, { on := 4, ground := Go.Ground.guard }], guard := some (4, false) }) (v := ?vv33) rfl (by kernel_rfl) (by kernel_rfl) (by kernel_rfl) (fun _ _ _ h => h) (Or.inl ⟨by rfl, ?hy33⟩) (by assumption) ?tk33
                  case hy33 => (intro w hSw; (try dsimp only at hSw); go_simp; (try with_reducible rfl))
                  try simp only [Act.put, List.setIfInBounds_toArray, List.set_cons_zero, List.set_cons_succ]
                  refine wpAnyH_ready (rs := [11]) (by kernel_rfl) (by simp) ?_
                  refine AllReadyH.cons (o := { dst := some 116, op := Go.Op.call { callee := Go.Callee.value (Go.Operand.func 31), args := #[Go.Operand.tmp 112, Go.Operand.tmp 115], argTypes := #[56, 56] }, type := 4, pos := _, after := #[{ on := 7, ground := Go.Ground.data }, { on := 10, ground := Go.Ground.data }, { on := 4, ground := Go.Ground.chain }, { on := 4, ground := Go.Ground.guard }], guard := some (4, false) }) rfl (fun K' hK' => ?_) AllReadyH.nil
                  go_simp
                  go_at_call 31
                  refine (HQ2.out w2 R2).mono ?_
                  rintro e w4 ⟨rfl, hb4⟩
                  have cg4 := (World.cell?_of_block (a := ⟨Gb, b, none⟩) (hb4.block Gb R2.lt.2)).trans cg2
                  have cs4 := (World.cell?_of_block (a := ⟨Sb, b, none⟩) (hb4.block Sb R2.lt.1)).trans cs2
                  clear hHeld
                  refine hK'.out _ _ ⟨cg4, cs4⟩ (fun hHeld => ?_)
                  clear hK' K'
                  try simp only [Act.put, List.setIfInBounds_toArray, List.set_cons_zero, List.set_cons_succ]
                  refine wpAnyH_take (i := 12) (oi := { dst := some 117, op := Go.Op.unOp Go.UnOp.not 4 (Go.Operand.tmp 116), type := 4, pos := _, after := #[{ on := 11, ground := Go.Ground.data }, { on := 4, ground := Go.Ground.guard }], guard := some (4, false) }) (v := ?vv34) rfl (by kernel_rfl) (by kernel_rfl) (by kernel_rfl) (fun _ _ _ h => h) (Or.inl ⟨by rfl, ?hy34⟩) (by assumption) ?tk34
                  case hy34 => (intro w hSw; (try dsimp only at hSw); go_simp; (try with_reducible rfl))
                  try simp only [Act.put, List.setIfInBounds_toArray, List.set_cons_zero, List.set_cons_succ]
                  refine wpAnyH_take (i := 13) (oi := { dst := some 118, op := Go.Op.pick (Go.Operand.tmp 109) (Go.Operand.const (Go.Value.bool true)) (Go.Operand.tmp 117), type := 4, pos := _, after := #[{ on := 4, ground := Go.Ground.data }, { on := 12, ground := Go.Ground.data }], guard := none }) (v := ?vv35) rfl (by kernel_rfl) (by kernel_rfl) (by kernel_rfl) (fun _ _ _ h => h) (Or.inl ⟨by rfl, ?hy35⟩) (by assumption) ?tk35
                  case hy35 => (intro w hSw; (try dsimp only at hSw); go_simp; (try with_reducible rfl))
                  try simp only [Act.put, List.setIfInBounds_toArray, List.set_cons_zero, List.set_cons_succ]
                  refine wpAnyH_done (by kernel_rfl) ?_ _
                  go_wp2
                  go_meet
                  case rel => exact ⟨ν2, g, (H2'.below P hb4).mono (by omega), hideIt (fun q hq => by
                    by_cases e : q = b
                    · subst e; exact HLE.out
                    · exact HQ.out q (by omega))⟩
            case rest =>
              obtain ⟨ν', g', H', HQ'⟩ := hcut
              go_wp2
              go_roundg (16 - (b + 1))
              case measure => omega
              case rel => exact ⟨b + 1, t, ν', S, g', by omega, by go_num, H', HQ'⟩
          · have e : b = 16 := by omega
            subst e
            have hmc := H.c
            have hqu := quiet_any H.m.net.1 (H.n.quiet HQ.out)
            go_wp2_with fail
            refine hqu.mono ?_
            rintro e wr ⟨rfl, rfl⟩
            go_wp2
            go_ret
            exact ⟨rfl, H.b⟩
  · rw [decide_eq_false hb] at hsm
    go_enter Tryz.func4, Tryz.ntmps4
    go_wp2_with fail
    refine hsm.mono ?_
    rintro e w ⟨rfl, rfl⟩
    go_wp2
    go_ret
    exact ⟨rfl, Below.refl _ _⟩
end Go.Proofs.Qxb6500877aGreatDoor
