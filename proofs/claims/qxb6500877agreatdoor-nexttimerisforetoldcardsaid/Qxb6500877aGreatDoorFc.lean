import Derived.Deep.CutBlock
import Derived.Test.Qxb6500877aGreatDoorFb
set_option linter.unusedVariables false
set_option linter.unusedSimpArgs false
namespace Go.Proofs.Qxb6500877aGreatDoor
open Go.RowKit

theorem NextE.nil {e : Ending} (h : NextE [] e) : e = .returned (.tuple #[.int .u64 0, .bool false]) := by
  rcases h with ⟨_, h⟩ | ⟨a, r, h, _⟩
  · exact h
  · cases h
theorem NextE.cons {a : TmR} {r : List TmR} {e : Ending} (h : NextE (a :: r) e) : e = .returned (.tuple #[.int .u64 a.dl, .bool true]) := by
  rcases h with ⟨h, _⟩ | ⟨a', r', h, h2⟩
  · cases h
  · cases h
    exact h2
theorem TickE.nil {t : Nat} {e : Ending} (h : TickE t [] e) : e = .returned (.tuple #[.int .u64 0, .bool false]) := by
  rcases h with ⟨_, h⟩ | ⟨a, r, h, _⟩
  · exact h
  · cases h
theorem TickE.cons {t : Nat} {a : TmR} {r : List TmR} {e : Ending} (h : TickE t (a :: r) e) : e = .returned (.tuple #[.int .u64 ((untilN t a.dl : Nat) : Int), .bool true]) := by
  rcases h with ⟨h, _⟩ | ⟨a', r', h, h2⟩
  · cases h
  · cases h
    exact h2
set_option maxRecDepth 20000 in
set_option maxHeartbeats 16000000 in
theorem law14 {p : Option Addr} {n c : Nat} {L : List OpS} {w : World} (h : OpsIn w p L) (hn : L.length = n) (hok : ∀ o ∈ L, o.ok) (hnc : n ≤ c) (V : Vac w) (TB : TabAt w) (h2 : 2 < w.heap.size) :
    Calls Tryz.prog 14 #[.slice p n c] w fun e w' => e = .returned (.bool true) ∧ Below w.heap.size w w' := by
  have HST : Hid (∀ {w : World} {B mb t k : Nat} {ν : Net} {τ : TSt} {σ : Sg}, Mach w B mb t k ν τ σ → k < 800000 → ∀ (o : OpS), o.ok → Calls Tryz.prog 19 #[.pointer (some ⟨B, 0, none⟩), opV o] w fun e w' => StepZ w w' B mb t k ν τ σ e) := hideIt (fun M hk o ho => step_z M hk o ho)
  have hsm := small_any (p := p) (n := n) (c := c) w
  by_cases hb : n ≤ 65536
  · rw [decide_eq_true hb] at hsm
    go_enter Tryz.func14, Tryz.ntmps14
    go_wp2_with fail
    refine hsm.mono ?_
    rintro e w ⟨rfl, rfl⟩
    go_wp2_with fail
    refine (new_any V TB h2).mono ?_
    rintro e w1 ⟨B, mb, σ0, rfl, M1, hwB, hwm, hb1⟩
    go_wp2_with fail
    go_loopg [18] n (fun gg v wr => ∃ (i t : Nat) (ν : Net) (τ : TSt) (σ : Sg), i + gg = n ∧ v = .int .i64 (i : Int) ∧ Mach wr B mb t (4 * i) ν τ σ ∧ Below w.heap.size w wr)
    case atStart => exact ⟨0, 0, net0, τ0, σ0, by omega, rfl, M1, hb1⟩
    case round =>
      clear M1 hb1
      obtain ⟨i, t0, ν0, τ0', σ0', hig, rfl, M, hbw⟩ := hrel
      by_cases hi : i < n
      · have i0 : (0 : Int) ≤ i := by omega
        have i1 : (i : Int) < (n : Int) := by omega
        have hi' : i < L.length := by omega
        obtain ⟨b, off, rfl, hcs⟩ : ∃ b off, p = some ⟨b, off, none⟩ ∧ ∀ j (h : j < L.length), OpCs w b (off + j * 6) L[j] := by
          rcases h with h | h
          · rw [h] at hi'; simp at hi'
          · exact h
        have hC := hcs i hi'
        have ho := hok _ (List.getElem_mem hi')
        generalize L[i] = o at hC ho
        obtain ⟨c0, c1, c2, c3, c4, c5⟩ := hC
        have d0 := cell_later hbw c0
        have d1 := cell_later hbw c1
        have d2 := cell_later hbw c2
        have d3 := cell_later hbw c3
        have d4 := cell_later hbw c4
        have d5 := cell_later hbw c5
        clear c0 c1 c2 c3 c4 c5 hcs
        go_upto_block 1 with fail
        go_cut [] (fun wc => ∃ (t' : Nat) (ν' : Net) (τ' : TSt) (σ' : Sg), Mach wc B mb t' (4 * i + 4) ν' τ' σ' ∧ Below w.heap.size w wc)
        case first =>
          go_upto_region 6 with fail
          go_cut [5] (fun a5 wc => ∃ b5 : Nat, a5 = .pointer (some ⟨b5, 0, none⟩) ∧ OpAt wc b5 o ∧ Mach wc B mb t0 (4 * i) ν0 τ0' σ0' ∧ Below w.heap.size w wc)
          case first =>
            go_wp2
            go_meet
            case rel =>
              have b1 := one_alloc wr (.cells #[.int .u8 o.kd, .int .i64 o.a, .int .i64 o.b, .int .i64 o.c, .int .u64 o.x, .int .u64 o.y] 32)
              exact ⟨wr.heap.size, rfl, op_new wr o 32, M.below b1, below_to hbw b1 hbw.size⟩
          case rest =>
          clear d0 d1 d2 d3 d4 d5 M hbw
          obtain ⟨b5, rfl, OP, M, hbw⟩ := hcut
          obtain ⟨g0, g1, g2, g3, g4, g5⟩ := OP
          have hst := HST.out M (by omega) o ho
          unfold opV at hst
          go_upto_region 7 with fail
          go_cut [] (fun wd => ∃ (t : Nat) (ν : Net) (τ : TSt) (σ : Sg), Mach wd B mb t (4 * i + 4) ν τ σ ∧ Below w.heap.size w wd)
          case first =>
            go_wp2_with fail
            refine hst.mono ?_
            rintro e w2 ⟨c', co, tk, tm, hm, mm, pp, nn, l, t', ν', τ', σ', rfl, hF, D, hZ⟩
            go_wp2
            go_meet
            case rel => exact ⟨t', ν', τ', σ', D.m, below_done hbw D hbw.size hwB hwm⟩
          case rest =>
          clear hst M hbw g0 g1 g2 g3 g4 g5
          obtain ⟨t, ν, τ, σ, M, hbw⟩ := hcut
          have hsn := snap_full M
          have hz := zv61
          go_upto_region 8 with fail
          go_cut [6] (fun a6 wd => ∃ (b6 base6 : Nat) (S6 : Snap), a6 = .pointer (some ⟨b6, 0, none⟩) ∧ Mach wd B mb t (4 * i + 4) ν τ σ ∧ StAt wd b6 base6 S6 ∧ Below w.heap.size w wd ∧ Hid (SnapOf t ν τ σ S6))
          case first =>
            go_wp2_with fail
            refine hsn.mono ?_
            rintro e w2 ⟨cs, S8, rfl, hcz, hso, hsm, hsc, hb2⟩
            have hon := one_of hsc
            have hrun := store61_new w2 hcz hon
            have HX := hideIt (And.intro hso (And.intro hsm (And.intro hsc (And.intro hb2 hcz))))
            clear hso hsm hsc hb2 hsn hcz hon
            go_wp2_with (first | (refine wpList_store_row rfl (.tmp 6) (.tmp 26) 61 rfl ⟨w2.heap.size, 0, none⟩ (.agg cs) rfl rfl hrun ?_) | go_in)
            go_meet
            case rel =>
              obtain ⟨hso, hsm, hsc, hb2, hcz⟩ := HX.out
              have b1 := one_alloc w2 (.cells cs 61)
              have bb := hb2.trans (b1.mono hb2.size)
              exact ⟨w2.heap.size, wc.heap.size, S8, rfl, M.below bb, stat_new hcz hsc, below_to hbw bb hbw.size, hideIt hso⟩
          case rest =>
          clear hsn hz M hbw
          obtain ⟨b6, base6, S6, rfl, M, T6, hbw, HSO⟩ := hcut
          obtain ⟨l, hl6, hTS⟩ : ∃ l, S6.tm = l ∧ TmSorted τ.tm l := by
            obtain ⟨Q, l, I, T, h⟩ := HSO.out
            exact ⟨l, by rw [h]; rfl, T⟩
          have HL := hideIt hTS
          have hnd := nextDeadline_m M hTS
          clear hTS
          cases l with
          | nil =>
            have hnd' : Calls Tryz.prog 53 #[.pointer (some ⟨B, 0, none⟩)] wc fun e w' => e = .returned (.tuple #[.int .u64 0, .bool false]) ∧ Below wc.heap.size wc w' := hnd.mono (fun e w' h => ⟨h.1.nil, h.2⟩)
            clear hnd
            go_upto_region 9 with fail
            go_cut [7, 8] (fun a7 a8 wd => a7 = .int .u64 0 ∧ a8 = .bool false ∧ Mach wd B mb t (4 * i + 4) ν τ σ ∧ StAt wd b6 base6 S6 ∧ Below w.heap.size w wd)
            case first =>
              go_wp2_with fail
              refine hnd'.mono ?_
              rintro e w1 ⟨rfl, hb1⟩
              go_wp2
              go_meet
              case rel => exact ⟨rfl, rfl, M.below hb1, T6.below hb1, below_to hbw hb1 hbw.size⟩
            case rest =>
            clear hnd' M T6 hbw
            obtain ⟨rfl, rfl, M, T6, hbw⟩ := hcut
            have htn := ticksToNext_m M HL.out
            have htn' : Calls Tryz.prog 54 #[.pointer (some ⟨B, 0, none⟩)] wc fun e w' => e = .returned (.tuple #[.int .u64 0, .bool false]) ∧ Below wc.heap.size wc w' := htn.mono (fun e w' h => ⟨h.1.nil, h.2⟩)
            clear htn
            go_upto_region 10 with fail
            go_cut [9, 10] (fun a9 a10 wd => a9 = .int .u64 0 ∧ a10 = .bool false ∧ Mach wd B mb t (4 * i + 4) ν τ σ ∧ StAt wd b6 base6 S6 ∧ Below w.heap.size w wd)
            case first =>
              go_wp2_with fail
              refine htn'.mono ?_
              rintro e w1 ⟨rfl, hb1⟩
              go_wp2
              go_meet
              case rel => exact ⟨rfl, rfl, M.below hb1, T6.below hb1, below_to hbw hb1 hbw.size⟩
            case rest =>
            clear htn' M T6 hbw
            obtain ⟨rfl, rfl, M, T6, hbw⟩ := hcut
            have hk6 := T6.ends
            obtain ⟨v6, kv6, hv6⟩ := hk6.1
            rw [hl6] at hv6
            obtain ⟨p6, c6, rfl⟩ := hv6.shape
            simp only [List.length_nil] at kv6
            clear hv6 hk6
            go_upto_region 14 with fail
            go_wp2_with fail
            refine (clone_any M (by omega)).mono ?_
            rintro e w1 ⟨B1, mb1, rfl, q1, q2, M1, hb1⟩
            go_wp2_with fail
            refine (advanceToNext_m M1 HL.out).mono ?_
            rintro e w2 h
            have hn : e = .returned (.slice none 0 0) ∧ Below w1.heap.size w1 w2 := by
              rcases h with ⟨_, h⟩ | ⟨a, r, v, lf, τ', h, _⟩
              · exact h
              · cases h
            obtain ⟨rfl, hb2⟩ := hn
            clear h
            go_wp2
            go_meet
            case rel =>
              have hb3 := below_to hb1 hb2 hb1.size
              exact ⟨t, ν, τ, σ, M.below hb3, below_to hbw hb3 hbw.size⟩
          | cons a r =>
            have hnd' : Calls Tryz.prog 53 #[.pointer (some ⟨B, 0, none⟩)] wc fun e w' => e = .returned (.tuple #[.int .u64 a.dl, .bool true]) ∧ Below wc.heap.size wc w' := hnd.mono (fun e w' h => ⟨h.1.cons, h.2⟩)
            clear hnd
            go_upto_region 9 with fail
            go_cut [7, 8] (fun a7 a8 wd => a7 = .int .u64 a.dl ∧ a8 = .bool true ∧ Mach wd B mb t (4 * i + 4) ν τ σ ∧ StAt wd b6 base6 S6 ∧ Below w.heap.size w wd)
            case first =>
              go_wp2_with fail
              refine hnd'.mono ?_
              rintro e w1 ⟨rfl, hb1⟩
              go_wp2
              go_meet
              case rel => exact ⟨rfl, rfl, M.below hb1, T6.below hb1, below_to hbw hb1 hbw.size⟩
            case rest =>
            clear hnd' M T6 hbw
            obtain ⟨rfl, rfl, M, T6, hbw⟩ := hcut
            have htn := ticksToNext_m M HL.out
            have hdr := dl_rng M ((HL.out.2 a).1 (by simp))
            obtain ⟨u, HU⟩ : ∃ u, Hid (untilN t a.dl = u) := ⟨_, hideIt rfl⟩
            have hu1 : 1 ≤ u ∧ u < 18446744073709551616 := by
              have := HU.out
              unfold untilN at this
              have := hdr.1
              have := hdr.2
              simp only at *
              omega
            have HDR := hideIt hdr
            clear hdr
            have htn' : Calls Tryz.prog 54 #[.pointer (some ⟨B, 0, none⟩)] wc fun e w' => e = .returned (.tuple #[.int .u64 (u : Int), .bool true]) ∧ Below wc.heap.size wc w' := htn.mono (fun e w' h => ⟨by rw [← HU.out]; exact h.1.cons, h.2⟩)
            clear htn
            go_upto_region 10 with fail
            go_cut [9, 10] (fun a9 a10 wd => a9 = .int .u64 (u : Int) ∧ a10 = .bool true ∧ Mach wd B mb t (4 * i + 4) ν τ σ ∧ StAt wd b6 base6 S6 ∧ Below w.heap.size w wd)
            case first =>
              go_wp2_with fail
              refine htn'.mono ?_
              rintro e w1 ⟨rfl, hb1⟩
              go_wp2
              go_meet
              case rel => exact ⟨rfl, rfl, M.below hb1, T6.below hb1, below_to hbw hb1 hbw.size⟩
            case rest =>
            clear htn' M T6 hbw
            obtain ⟨rfl, rfl, M, T6, hbw⟩ := hcut
            obtain ⟨v6, kv6, hv6⟩ := T6.ends.1
            rw [hl6] at hv6
            rcases hv6 with ⟨hh, _⟩ | ⟨g6, c6, rfl, _, hg6, hc6⟩
            · cases hh
            obtain ⟨z0, z1, z2, z3⟩ := hc6 0 a rfl
            simp only [Nat.zero_mul, Nat.zero_add] at z0 z1 z2 z3
            have hb6 := T6.lt
            obtain ⟨n6, HN6⟩ : ∃ n6, Hid ((a :: r).length = n6) := ⟨_, hideIt rfl⟩
            have hn6 : 0 < n6 := by have := HN6.out; simp at this; omega
            rw [HN6.out] at kv6
            clear hc6 T6
            have hn6' : (n6 : Int) > 0 := by omega
            have hn6'' : (0 : Int) < (n6 : Int) := by omega
            have hu0 : ¬ ((u : Int) < 1) := by omega
            have hu0' : ¬ (1 > (u : Int)) := by omega
            go_upto_region 16 with fail
            go_cut [65] (fun a65 wd => a65 = .bool false ∧ wd = wc)
            case first =>
              go_wp2
              go_meet
              case rel => exact ⟨rfl, rfl⟩
            case rest =>
            obtain ⟨rfl, hcw⟩ := hcut
            have hcw' := hcw.symm
            clear hcw
            subst hcw'
            have HQ : Hid (∀ w' : World, (∀ k, k < wc.heap.size → w'.heap[k]? = wc.heap[k]?) → w'.cell? ⟨b6, 121, none⟩ = some (.slice (some ⟨g6, 0, none⟩) n6 c6) ∧ w'.cell? ⟨g6, 0, none⟩ = some (.int .u64 a.id) ∧ w'.cell? ⟨g6, 1, none⟩ = some (.int .i64 a.core) ∧ w'.cell? ⟨g6, 2, none⟩ = some (.int .u64 a.dl) ∧ w'.cell? ⟨g6, 3, none⟩ = some (.int .u64 a.ck)) := hideIt (fun w' hk => ⟨(World.cell?_of_block (a := ⟨b6, 121, none⟩) (hk b6 hb6)).trans kv6, (World.cell?_of_block (a := ⟨g6, 0, none⟩) (hk g6 hg6)).trans z0, (World.cell?_of_block (a := ⟨g6, 1, none⟩) (hk g6 hg6)).trans z1, (World.cell?_of_block (a := ⟨g6, 2, none⟩) (hk g6 hg6)).trans z2, (World.cell?_of_block (a := ⟨g6, 3, none⟩) (hk g6 hg6)).trans z3⟩)
            obtain ⟨u', hu'⟩ : ∃ u', Hid (u = u' + 1) := ⟨u - 1, hideIt (by omega)⟩
            have huq : (u : Int) - 1 = (u' : Int) := by have := hu'.out; omega
            have hu'l : u' < 18446744073709551616 := by have := hu'.out; omega
            have hu'0 : (0 : Int) ≤ u' := by omega
            have hu'1 : (u' : Int) < 18446744073709551616 := by omega
            go_upto_region 18 with fail
            go_cut [72] (fun a72 wd => a72 = .bool false ∧ Mach wd B mb t (4 * i + 4) ν τ σ ∧ Below w.heap.size w wd ∧ (b6 < wd.heap.size ∧ g6 < wd.heap.size) ∧ wd.cell? ⟨b6, 121, none⟩ = some (.slice (some ⟨g6, 0, none⟩) n6 c6) ∧ wd.cell? ⟨g6, 0, none⟩ = some (.int .u64 a.id) ∧ wd.cell? ⟨g6, 1, none⟩ = some (.int .i64 a.core) ∧ wd.cell? ⟨g6, 2, none⟩ = some (.int .u64 a.dl) ∧ wd.cell? ⟨g6, 3, none⟩ = some (.int .u64 a.ck))
            case first =>
              go_wp2_with fail
              refine (clone_any M (by omega)).mono ?_
              rintro e w1 ⟨B1, mb1, rfl, q1, q2, M1, hb1⟩
              have adv := advance_m M1 hu'l
              go_wp2_with fail
              refine adv.mono ?_
              rintro e w2 ⟨v1, l1, τ1, rfl, hF1, D1, A1⟩
              have e1 : untilN t a.dl - 1 = u' := by rw [HU.out, hu'.out]; rfl
              rw [← e1] at A1
              have el := early_none M.tlt HL.out A1
              subst el
              obtain ⟨p1, c1, rfl⟩ := fired_shape hF1
              simp only [List.length_nil]
              have hb2 := below_done hb1 D1 hb1.size q1 q2
              clear A1 D1 adv hF1
              go_wp2
              go_meet
              case rel => exact ⟨rfl, M.below hb2, below_to hbw hb2 hbw.size, ⟨by have := hb2.size; omega, by have := hb2.size; omega⟩, HQ.out _ hb2.block⟩
            case rest =>
            clear M hbw HQ kv6 z0 z1 z2 z3 hb6 hg6 huq
            obtain ⟨rfl, M, hbw, ⟨hb6, hg6⟩, kv6, z0, z1, z2, z3⟩ := hcut
            have HQ : Hid (∀ w' : World, (∀ k, k < wc.heap.size → w'.heap[k]? = wc.heap[k]?) → w'.cell? ⟨b6, 121, none⟩ = some (.slice (some ⟨g6, 0, none⟩) n6 c6) ∧ w'.cell? ⟨g6, 0, none⟩ = some (.int .u64 a.id) ∧ w'.cell? ⟨g6, 1, none⟩ = some (.int .i64 a.core) ∧ w'.cell? ⟨g6, 2, none⟩ = some (.int .u64 a.dl) ∧ w'.cell? ⟨g6, 3, none⟩ = some (.int .u64 a.ck)) := hideIt (fun w' hk => ⟨(World.cell?_of_block (a := ⟨b6, 121, none⟩) (hk b6 hb6)).trans kv6, (World.cell?_of_block (a := ⟨g6, 0, none⟩) (hk g6 hg6)).trans z0, (World.cell?_of_block (a := ⟨g6, 1, none⟩) (hk g6 hg6)).trans z1, (World.cell?_of_block (a := ⟨g6, 2, none⟩) (hk g6 hg6)).trans z2, (World.cell?_of_block (a := ⟨g6, 3, none⟩) (hk g6 hg6)).trans z3⟩)
            go_upto_region 20 with fail
            go_cut [11] (fun a11 wd => ∃ (g11 c11 base11 : Nat) (lf : List FiredS) (τ2 : TSt), a11 = .slice (some ⟨g11, 0, none⟩) lf.length c11 ∧ FrAt wd base11 (.slice (some ⟨g11, 0, none⟩) lf.length c11) lf ∧ g11 < wd.heap.size ∧ (wd.cell? ⟨g11, 0, none⟩ = some (.int .u64 a.id) ∧ wd.cell? ⟨g11, 1, none⟩ = some (.int .i64 a.core) ∧ wd.cell? ⟨g11, 2, none⟩ = some (.int .u64 a.dl) ∧ wd.cell? ⟨g11, 3, none⟩ = some (.int .u64 a.ck)) ∧ Mach wd B mb t (4 * i + 4) ν τ σ ∧ Below w.heap.size w wd ∧ (b6 < wd.heap.size ∧ g6 < wd.heap.size) ∧ (wd.cell? ⟨b6, 121, none⟩ = some (.slice (some ⟨g6, 0, none⟩) n6 c6) ∧ wd.cell? ⟨g6, 0, none⟩ = some (.int .u64 a.id) ∧ wd.cell? ⟨g6, 1, none⟩ = some (.int .i64 a.core) ∧ wd.cell? ⟨g6, 2, none⟩ = some (.int .u64 a.dl) ∧ wd.cell? ⟨g6, 3, none⟩ = some (.int .u64 a.ck)) ∧ lf.length ≤ 64 ∧ 0 < lf.length ∧ Hid (AdvanceR τ τ2 t u lf))
            case first =>
              go_wp2_with fail
              refine (clone_any M (by omega)).mono ?_
              rintro e w1 ⟨B1, mb1, rfl, q1, q2, M1, hb1⟩
              have adv := advance_m M1 hu1.2
              go_wp2_with fail
              refine adv.mono ?_
              rintro e w2 ⟨v1, lf, τ2, rfl, hF, D, A⟩
              have hb2 := below_done hb1 D hb1.size q1 q2
              have hlen := A.len M1
              have HA2 := hideIt A
              have HF := hideIt hF
              clear adv A hF D
              go_wp2
              go_meet
              case rel =>
                obtain ⟨ee, l', hcons, e1, e2, e3, e4⟩ := on_time M.tlt HDR.out HL.out (by rw [HU.out]; exact HA2.out)
                rcases fr_of HF.out with ⟨hh, _⟩ | ⟨g11, c11, rfl, hg, hg2, hFA⟩
                · rw [hcons] at hh; cases hh
                · obtain ⟨y0, y1, y2, y3, _⟩ := hFA 0 ee (by rw [hcons]; rfl)
                  simp only [Nat.zero_mul, Nat.zero_add] at y0 y1 y2 y3
                  rw [e1] at y0
                  rw [e2] at y1
                  rw [e3] at y2
                  rw [e4] at y3
                  exact ⟨g11, c11, w1.heap.size, lf, τ2, rfl, .inr ⟨g11, c11, rfl, hg, hg2, hFA⟩, hg2, ⟨y0, y1, y2, y3⟩, M.below hb2, below_to hbw hb2 hbw.size, ⟨by have := hb2.size; omega, by have := hb2.size; omega⟩, HQ.out _ hb2.block, hlen, by rw [hcons]; simp, HA2⟩
            case rest =>
            clear M hbw HQ kv6 z0 z1 z2 z3 hb6 hg6
            obtain ⟨g11, c11, base11, lf, τ2, rfl, F11, hg11, ⟨y0, y1, y2, y3⟩, M, hbw, ⟨hb6, hg6⟩, ⟨kv6, z0, z1, z2, z3⟩, hl64, hlp, HA2⟩ := hcut
            have HS : Hid (∀ w' : World, (∀ k, k < wc.heap.size → w'.heap[k]? = wc.heap[k]?) → w'.cell? ⟨g11, 0, none⟩ = some (.int .u64 a.id) ∧ w'.cell? ⟨g11, 1, none⟩ = some (.int .i64 a.core) ∧ w'.cell? ⟨g11, 2, none⟩ = some (.int .u64 a.dl) ∧ w'.cell? ⟨g11, 3, none⟩ = some (.int .u64 a.ck) ∧ w'.cell? ⟨b6, 121, none⟩ = some (.slice (some ⟨g6, 0, none⟩) n6 c6) ∧ w'.cell? ⟨g6, 0, none⟩ = some (.int .u64 a.id) ∧ w'.cell? ⟨g6, 1, none⟩ = some (.int .i64 a.core) ∧ w'.cell? ⟨g6, 2, none⟩ = some (.int .u64 a.dl) ∧ w'.cell? ⟨g6, 3, none⟩ = some (.int .u64 a.ck)) := hideIt (fun w' hk => ⟨(World.cell?_of_block (a := ⟨g11, 0, none⟩) (hk g11 hg11)).trans y0, (World.cell?_of_block (a := ⟨g11, 1, none⟩) (hk g11 hg11)).trans y1, (World.cell?_of_block (a := ⟨g11, 2, none⟩) (hk g11 hg11)).trans y2, (World.cell?_of_block (a := ⟨g11, 3, none⟩) (hk g11 hg11)).trans y3, (World.cell?_of_block (a := ⟨b6, 121, none⟩) (hk b6 hb6)).trans kv6, (World.cell?_of_block (a := ⟨g6, 0, none⟩) (hk g6 hg6)).trans z0, (World.cell?_of_block (a := ⟨g6, 1, none⟩) (hk g6 hg6)).trans z1, (World.cell?_of_block (a := ⟨g6, 2, none⟩) (hk g6 hg6)).trans z2, (World.cell?_of_block (a := ⟨g6, 3, none⟩) (hk g6 hg6)).trans z3⟩)
            have hlz : ((lf.length : Int) == 0) = false := by rw [beq_eq_false_iff_ne]; omega
            have hlq : (0 : Int) < (lf.length : Int) := by omega
            have hts := tmr_same a
            have hgd := guard84
            clear y0 y1 y2 y3 kv6 z0 z1 z2 z3
            go_upto_region 21 with fail
            refine wp_region_held_drew (S := (fun w' => w'.cell? ⟨g11, 0, none⟩ = some (.int .u64 a.id) ∧ w'.cell? ⟨g11, 1, none⟩ = some (.int .i64 a.core) ∧ w'.cell? ⟨g11, 2, none⟩ = some (.int .u64 a.dl) ∧ w'.cell? ⟨g11, 3, none⟩ = some (.int .u64 a.ck) ∧ w'.cell? ⟨b6, 121, none⟩ = some (.slice (some ⟨g6, 0, none⟩) n6 c6) ∧ w'.cell? ⟨g6, 0, none⟩ = some (.int .u64 a.id) ∧ w'.cell? ⟨g6, 1, none⟩ = some (.int .i64 a.core) ∧ w'.cell? ⟨g6, 2, none⟩ = some (.int .u64 a.dl) ∧ w'.cell? ⟨g6, 3, none⟩ = some (.int .u64 a.ck))) (by kernel_rfl) (HS.out _ (fun k hk => rfl)) (fun hHeld => ?_)
            refine wpAnyH_take (i := 0) (oi := { dst := some 77, op := Go.Op.move (Go.Operand.tmp 11), type := 41, pos := _, after := #[], guard := none }) (v := ?vv1) rfl (by kernel_rfl) (by kernel_rfl) (by kernel_rfl) (fun _ _ _ h => h) (Or.inl ⟨by rfl, ?hy1⟩) (by assumption) ?tk1
            case hy1 => (intro w hSw; (try dsimp only at hSw); go_simp; (try with_reducible rfl))
            try simp only [Act.put, List.setIfInBounds_toArray, List.set_cons_zero, List.set_cons_succ]
            refine wpAnyH_take (i := 1) (oi := { dst := some 78, op := Go.Op.call { callee := Go.Callee.builtin Go.Builtin.len, args := #[Go.Operand.tmp 77], argTypes := #[41] }, type := 3, pos := _, after := #[{ on := 0, ground := Go.Ground.data }], guard := none }) (v := ?vv2) rfl (by kernel_rfl) (by kernel_rfl) (by kernel_rfl) (fun _ _ _ h => h) (Or.inl ⟨by rfl, ?hy2⟩) (by assumption) ?tk2
            case hy2 => (intro w hSw; (try dsimp only at hSw); go_simp; (try with_reducible rfl))
            try simp only [Act.put, List.setIfInBounds_toArray, List.set_cons_zero, List.set_cons_succ]
            refine wpAnyH_take (i := 2) (oi := { dst := some 79, op := Go.Op.binOp Go.BinOp.eql 3 (Go.Operand.tmp 78) (Go.Operand.const (Go.Value.int Go.IntKind.i64 0)) 3, type := 4, pos := _, after := #[{ on := 1, ground := Go.Ground.data }], guard := none }) (v := ?vv3) rfl (by kernel_rfl) (by kernel_rfl) (by kernel_rfl) (fun _ _ _ h => h) (Or.inl ⟨by rfl, ?hy3⟩) (by assumption) ?tk3
            case hy3 => (intro w hSw; (try dsimp only at hSw); go_simp; (try with_reducible rfl))
            try simp only [Act.put, List.setIfInBounds_toArray, List.set_cons_zero, List.set_cons_succ]
            refine wpAnyH_take (i := 3) (oi := { dst := some 80, op := Go.Op.move (Go.Operand.tmp 79), type := 4, pos := _, after := #[{ on := 2, ground := Go.Ground.data }], guard := none }) (v := ?vv4) rfl (by kernel_rfl) (by kernel_rfl) (by kernel_rfl) (fun _ _ _ h => h) (Or.inl ⟨by rfl, ?hy4⟩) (by assumption) ?tk4
            case hy4 => (intro w hSw; (try dsimp only at hSw); go_simp; (try with_reducible rfl))
            try simp only [Act.put, List.setIfInBounds_toArray, List.set_cons_zero, List.set_cons_succ]
            refine wpAnyH_take (i := 4) (oi := { dst := some 81, op := Go.Op.move (Go.Operand.tmp 11), type := 41, pos := _, after := #[{ on := 3, ground := Go.Ground.guard }], guard := some (3, false) }) (v := ?vv5) rfl (by kernel_rfl) (by kernel_rfl) (by kernel_rfl) (fun _ _ _ h => h) (Or.inl ⟨by rfl, ?hy5⟩) (by assumption) ?tk5
            case hy5 => (intro w hSw; (try dsimp only at hSw); go_simp; (try with_reducible rfl))
            try simp only [Act.put, List.setIfInBounds_toArray, List.set_cons_zero, List.set_cons_succ]
            refine wpAnyH_take (i := 5) (oi := { dst := some 82, op := Go.Op.indexAddr 41 (Go.Operand.tmp 81) (Go.Operand.const (Go.Value.int Go.IntKind.i64 0)), type := 0, pos := _, after := #[{ on := 4, ground := Go.Ground.data }, { on := 3, ground := Go.Ground.guard }], guard := some (3, false) }) (v := ?vv6) rfl (by kernel_rfl) (by kernel_rfl) (by kernel_rfl) (fun _ _ _ h => h) (Or.inl ⟨by rfl, ?hy6⟩) (by assumption) ?tk6
            case hy6 => (intro w hSw; (try dsimp only at hSw); go_simp; (try with_reducible rfl))
            try simp only [Act.put, List.setIfInBounds_toArray, List.set_cons_zero, List.set_cons_succ]
            refine wpAnyH_take (i := 6) (oi := { dst := some 83, op := Go.Op.fieldAddr 86 (Go.Operand.tmp 82) 0, type := 0, pos := _, after := #[{ on := 5, ground := Go.Ground.data }, { on := 3, ground := Go.Ground.guard }], guard := some (3, false) }) (v := ?vv7) rfl (by kernel_rfl) (by kernel_rfl) (by kernel_rfl) (fun _ _ _ h => h) (Or.inl ⟨by rfl, ?hy7⟩) (by assumption) ?tk7
            case hy7 => (intro w hSw; (try dsimp only at hSw); go_simp; (try with_reducible rfl))
            try simp only [Act.put, List.setIfInBounds_toArray, List.set_cons_zero, List.set_cons_succ]
            refine wpAnyH_take (i := 7) (oi := { dst := some 84, op := Go.Op.load 84 (Go.Operand.tmp 83), type := 84, pos := _, after := #[{ on := 6, ground := Go.Ground.data }, { on := 3, ground := Go.Ground.guard }], guard := some (3, false) }) (v := ?vv8) rfl (by kernel_rfl) (by kernel_rfl) (by kernel_rfl) (fun _ _ _ h => h) (Or.inl ⟨by rfl, ?hy8⟩) (by assumption) ?tk8
            case hy8 => (intro w hSw; (try dsimp only at hSw); go_simp; (try with_reducible rfl))
            try simp only [Act.put, List.setIfInBounds_toArray, List.set_cons_zero, List.set_cons_succ]
            refine wpAnyH_take (i := 8) (oi := { dst := some 85, op := Go.Op.fieldAddr 61 (Go.Operand.tmp 6) 5, type := 0, pos := _, after := #[{ on := 3, ground := Go.Ground.guard }], guard := some (3, false) }) (v := ?vv9) rfl (by kernel_rfl) (by kernel_rfl) (by kernel_rfl) (fun _ _ _ h => h) (Or.inl ⟨by rfl, ?hy9⟩) (by assumption) ?tk9
            case hy9 => (intro w hSw; (try dsimp only at hSw); go_simp; (try with_reducible rfl))
            try simp only [Act.put, List.setIfInBounds_toArray, List.set_cons_zero, List.set_cons_succ]
            refine wpAnyH_take (i := 9) (oi := { dst := some 86, op := Go.Op.load 59 (Go.Operand.tmp 85), type := 59, pos := _, after := #[{ on := 8, ground := Go.Ground.data }, { on := 3, ground := Go.Ground.guard }], guard := some (3, false) }) (v := ?vv10) rfl (by kernel_rfl) (by kernel_rfl) (by kernel_rfl) (fun _ _ _ h => h) (Or.inl ⟨by rfl, ?hy10⟩) (by assumption) ?tk10
            case hy10 => (intro w hSw; (try dsimp only at hSw); go_simp; (try with_reducible rfl))
            try simp only [Act.put, List.setIfInBounds_toArray, List.set_cons_zero, List.set_cons_succ]
            refine wpAnyH_take (i := 10) (oi := { dst := some 87, op := Go.Op.indexAddr 59 (Go.Operand.tmp 86) (Go.Operand.const (Go.Value.int Go.IntKind.i64 0)), type := 0, pos := _, after := #[{ on := 9, ground := Go.Ground.data }, { on := 3, ground := Go.Ground.guard }], guard := some (3, false) }) (v := ?vv11) rfl (by kernel_rfl) (by kernel_rfl) (by kernel_rfl) (fun _ _ _ h => h) (Or.inl ⟨by rfl, ?hy11⟩) (by assumption) ?tk11
            case hy11 => (intro w hSw; (try dsimp only at hSw); go_simp; (try with_reducible rfl))
            try simp only [Act.put, List.setIfInBounds_toArray, List.set_cons_zero, List.set_cons_succ]
            refine wpAnyH_take (i := 11) (oi := { dst := some 88, op := Go.Op.load 84 (Go.Operand.tmp 87), type := 84, pos := _, after := #[{ on := 10, ground := Go.Ground.data }, { on := 3, ground := Go.Ground.guard }], guard := some (3, false) }) (v := ?vv12) rfl (by kernel_rfl) (by kernel_rfl) (by kernel_rfl) (fun _ _ _ h => h) (Or.inl ⟨by rfl, ?hy12⟩) (by assumption) ?tk12
            case hy12 => (intro w hSw; (try dsimp only at hSw); go_simp; (try with_reducible rfl))
            try simp only [Act.put, List.setIfInBounds_toArray, List.set_cons_zero, List.set_cons_succ]
            refine wpAnyH_take (i := 12) (oi := { dst := some 89, op := Go.Op.binOp Go.BinOp.neq 84 (Go.Operand.tmp 84) (Go.Operand.tmp 88) 84, type := 4, pos := _, after := #[{ on := 7, ground := Go.Ground.data }, { on := 11, ground := Go.Ground.data }, { on := 3, ground := Go.Ground.guard }], guard := some (3, false) }) (v := ?vv13) rfl (by kernel_rfl) (by kernel_rfl) (by kernel_rfl) (fun _ _ _ h => h) (Or.inl ⟨by rfl, ?hy13⟩) (by assumption) ?tk13
            case hy13 => (intro w hSw; (try dsimp only at hSw); go_simp; (try with_reducible rfl))
            try simp only [Act.put, List.setIfInBounds_toArray, List.set_cons_zero, List.set_cons_succ]
            refine wpAnyH_take (i := 13) (oi := { dst := some 90, op := Go.Op.pick (Go.Operand.tmp 80) (Go.Operand.const (Go.Value.bool true)) (Go.Operand.tmp 89), type := 4, pos := _, after := #[{ on := 3, ground := Go.Ground.data }, { on := 12, ground := Go.Ground.data }], guard := none }) (v := ?vv14) rfl (by kernel_rfl) (by kernel_rfl) (by kernel_rfl) (fun _ _ _ h => h) (Or.inl ⟨by rfl, ?hy14⟩) (by assumption) ?tk14
            case hy14 => (intro w hSw; (try dsimp only at hSw); go_simp; (try with_reducible rfl))
            try simp only [Act.put, List.setIfInBounds_toArray, List.set_cons_zero, List.set_cons_succ]
            refine wpAnyH_take (i := 14) (oi := { dst := some 91, op := Go.Op.move (Go.Operand.tmp 90), type := 4, pos := _, after := #[{ on := 13, ground := Go.Ground.data }, { on := 3, ground := Go.Ground.chain }], guard := none }) (v := ?vv15) rfl (by kernel_rfl) (by kernel_rfl) (by kernel_rfl) (fun _ _ _ h => h) (Or.inl ⟨by rfl, ?hy15⟩) (by assumption) ?tk15
            case hy15 => (intro w hSw; (try dsimp only at hSw); go_simp; (try with_reducible rfl))
            try simp only [Act.put, List.setIfInBounds_toArray, List.set_cons_zero, List.set_cons_succ]
            refine wpAnyH_take (i := 15) (oi := { dst := some 92, op := Go.Op.move (Go.Operand.tmp 11), type := 41, pos := _, after := #[{ on := 14, ground := Go.Ground.guard }], guard := some (14, false) }) (v := ?vv16) rfl (by kernel_rfl) (by kernel_rfl) (by kernel_rfl) (fun _ _ _ h => h) (Or.inl ⟨by rfl, ?hy16⟩) (by assumption) ?tk16
            case hy16 => (intro w hSw; (try dsimp only at hSw); go_simp; (try with_reducible rfl))
            try simp only [Act.put, List.setIfInBounds_toArray, List.set_cons_zero, List.set_cons_succ]
            refine wpAnyH_take (i := 16) (oi := { dst := some 93, op := Go.Op.move (Go.Operand.tmp 3), type := 24, pos := _, after := #[{ on := 14, ground := Go.Ground.guard }], guard := some (14, false) }) (v := ?vv17) rfl (by kernel_rfl) (by kernel_rfl) (by kernel_rfl) (fun _ _ _ h => h) (Or.inl ⟨by rfl, ?hy17⟩) (by assumption) ?tk17
            case hy17 => (intro w hSw; (try dsimp only at hSw); go_simp; (try with_reducible rfl))
            try simp only [Act.put, List.setIfInBounds_toArray, List.set_cons_zero, List.set_cons_succ]
            refine wpAnyH_ready (rs := [17]) (by kernel_rfl) (by simp) ?_
            refine AllReadyH.cons (o := { dst := some 94, op := Go.Op.call { callee := Go.Callee.value (Go.Operand.func 45), args := #[Go.Operand.tmp 93], argTypes := #[24] }, type := 24, pos := _, after := #[{ on := 16, ground := Go.Ground.data }, { on := 14, ground := Go.Ground.chain }, { on := 14, ground := Go.Ground.guard }], guard := some (14, false) }) rfl (fun K' hK' => ?_) AllReadyH.nil
            go_simp
            go_at_call 45
            refine (clone_any (M.blocks (by intro _ _; rfl)) (by omega)).mono ?_
            rintro e w1 ⟨B3, mb3, rfl, q1, q2, M3, hb1⟩
            have hb1 : Below wc.heap.size wc w1 := ⟨hb1.os, hb1.tape, hb1.output, hb1.size, hb1.block⟩
            clear hHeld
            refine hK'.out _ _ (HS.out _ hb1.block) (fun hHeld => ?_)
            clear hK' K'
            try simp only [Act.put, List.setIfInBounds_toArray, List.set_cons_zero, List.set_cons_succ]
            refine wpAnyH_ready (rs := [18]) (by kernel_rfl) (by simp) ?_
            refine AllReadyH.cons (o := { dst := some 95, op := Go.Op.call { callee := Go.Callee.value (Go.Operand.func 55), args := #[Go.Operand.tmp 94], argTypes := #[24] }, type := 41, pos := _, after := #[{ on := 17, ground := Go.Ground.data }, { on := 17, ground := Go.Ground.chain }, { on := 14, ground := Go.Ground.guard }], guard := some (14, false) }) rfl (fun K' hK' => ?_) AllReadyH.nil
            go_simp
            go_at_call 55
            refine (advanceToNext_m (M3.blocks (by intro _ _; rfl)) HL.out).mono ?_
            rintro e w2 h
            obtain ⟨a', r', v3, lg, τ3, ear, rfl, hF3, D3, A3⟩ : ∃ (a' : TmR) (r' : List TmR) (v : Value) (lf : List FiredS) (τ' : TSt), a :: r = a' :: r' ∧ e = .returned v ∧ FiredAt w2 w1.heap.size v lf ∧ Done w1 w2 B3 mb3 (afterF t (untilN t a'.dl)) (4 * i + 4) ν τ' (firedSg σ lf) ∧ AdvanceR τ τ' t (untilN t a'.dl) lf := by
              rcases h with ⟨h, _⟩ | ⟨a', r', v, lf, τ', h1, h2, h3, h4, h5⟩
              · cases h
              · exact ⟨a', r', v, lf, τ', h1, h2, h3, ⟨h4.m, ⟨h4.f.os, h4.f.tape, h4.f.output, h4.f.size, h4.f.block, h4.f.frz, h4.f.cell⟩⟩, h5⟩
            obtain ⟨ea, er⟩ := List.cons.inj ear
            rw [← ea, HU.out] at A3
            obtain ⟨el, _⟩ := A3.unique HA2.out
            rw [el] at hF3
            have hb2 := below_done hb1 D3 hb1.size q1 q2
            obtain ⟨p3, c3, rfl⟩ := fired_shape hF3
            have F3 := fr_of hF3
            clear D3 A3 M3 hF3
            clear hHeld
            refine hK'.out _ _ (HS.out _ hb2.block) (fun hHeld => ?_)
            clear hK' K'
            try simp only [Act.put, List.setIfInBounds_toArray, List.set_cons_zero, List.set_cons_succ]
            refine wpAnyH_ready (rs := [19]) (by kernel_rfl) (by simp) ?_
            refine AllReadyH.cons (o := { dst := some 96, op := Go.Op.call { callee := Go.Callee.value (Go.Operand.func 49), args := #[Go.Operand.tmp 92, Go.Operand.tmp 95], argTypes := #[41, 41] }, type := 4, pos := _, after := #[{ on := 15, ground := Go.Ground.data }, { on := 18, ground := Go.Ground.data }, { on := 18, ground := Go.Ground.chain }, { on := 14, ground := Go.Ground.guard }], guard := some (14, false) }) rfl (fun K' hK' => ?_) AllReadyH.nil
            go_simp
            go_at_call 49
            refine (eq_fired ((F11.below hb2).keep (Nat.le_refl _) (by intro _ _ _; rfl)) (F3.keep (Nat.le_refl _) (by intro _ _ _; rfl)) (by omega)).mono ?_
            rintro e w3 ⟨rfl, hb3⟩
            have hb3 : Below w2.heap.size w2 w3 := ⟨hb3.os, hb3.tape, hb3.output, hb3.size, hb3.block⟩
            have hb4 := below_to hb2 hb3 hb2.size
            clear hHeld
            refine hK'.out _ _ (HS.out _ hb4.block) (fun hHeld => ?_)
            clear hK' K'
            try simp only [Act.put, List.setIfInBounds_toArray, List.set_cons_zero, List.set_cons_succ]
            refine wpAnyH_take (i := 20) (oi := { dst := some 97, op := Go.Op.unOp Go.UnOp.not 4 (Go.Operand.tmp 96), type := 4, pos := _, after := #[{ on := 19, ground := Go.Ground.data }, { on := 14, ground := Go.Ground.guard }], guard := some (14, false) }) (v := ?vv18) rfl (by kernel_rfl) (by kernel_rfl) (by kernel_rfl) (fun _ _ _ h => h) (Or.inl ⟨by rfl, ?hy18⟩) (by assumption) ?tk18
            case hy18 => (intro w hSw; (try dsimp only at hSw); go_simp; (try with_reducible rfl))
            try simp only [Act.put, List.setIfInBounds_toArray, List.set_cons_zero, List.set_cons_succ]
            refine wpAnyH_take (i := 21) (oi := { dst := some 98, op := Go.Op.pick (Go.Operand.tmp 91) (Go.Operand.const (Go.Value.bool true)) (Go.Operand.tmp 97), type := 4, pos := _, after := #[{ on := 14, ground := Go.Ground.data }, { on := 20, ground := Go.Ground.data }], guard := none }) (v := ?vv19) rfl (by kernel_rfl) (by kernel_rfl) (by kernel_rfl) (fun _ _ _ h => h) (Or.inl ⟨by rfl, ?hy19⟩) (by assumption) ?tk19
            case hy19 => (intro w hSw; (try dsimp only at hSw); go_simp; (try with_reducible rfl))
            try simp only [Act.put, List.setIfInBounds_toArray, List.set_cons_zero, List.set_cons_succ]
            refine wpAnyH_done (by kernel_rfl) ?_ _
            go_wp2
            go_meet
            case rel => exact ⟨t, ν, τ, σ, M.below hb4, below_to hbw hb4 hbw.size⟩
        case rest =>
          obtain ⟨t', ν', τ', σ', M', hb'⟩ := hcut
          go_wp2
          go_roundg (n - (i + 1))
          case measure => omega
          case rel => exact ⟨i + 1, t', ν', τ', σ', by omega, by go_num, M', hb'⟩
      · have e : i = n := by omega
        subst e
        go_wp2
        go_ret
        exact ⟨rfl, hbw⟩
  · rw [decide_eq_false hb] at hsm
    go_enter Tryz.func14, Tryz.ntmps14
    go_wp2_with fail
    refine hsm.mono ?_
    rintro e w ⟨rfl, rfl⟩
    go_wp2
    go_ret
    exact ⟨rfl, Below.refl _ _⟩
end Go.Proofs.Qxb6500877aGreatDoor
