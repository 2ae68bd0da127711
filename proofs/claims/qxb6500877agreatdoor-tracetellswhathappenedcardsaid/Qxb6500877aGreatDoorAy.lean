import Derived.Deep.CutBlock
import Derived.OwnWalk
import Derived.Maps.AppendAt
import Derived.Test.Qxb6500877aGreatDoorAy0
set_option linter.unusedVariables false
set_option linter.unusedSimpArgs false
namespace Go.Proofs.Qxb6500877aGreatDoor
open Go.RowKit

set_option maxRecDepth 20000 in
set_option maxHeartbeats 16000000 in
theorem mstate_any {w : World} {D base : Nat} {V : Nat → Value} {m : Mdl} {cu : Nat → Int} (H : MdlAt w D base V m) (K : MOk m) (hcu : ∀ c : Nat, c < 4 → ∀ v, RunIs m.tk c v → v = cu c) :
    Calls Tryz.prog 23 #[.pointer (some ⟨D, 0, none⟩)] w fun e w' => ∃ (v : Value) (S : Snap), e = .returned v ∧ SnapV w' w.heap.size v S ∧ MSnap m cu S ∧ Below w.heap.size w w' := by
  have hz := zv61
  have hDl := H.dlt
  have n1 : ¬ (w.heap.size + 1 = D) := by omega
  have n2 : ¬ (D = w.heap.size + 1) := by omega
  have HCU := hideIt hcu
  have HK := hideIt K
  have HH : Hid (∀ wr, Below w.heap.size w wr → MdlAt wr D base V m) := hideIt (fun wr hb => H.below hb)
  obtain ⟨S, HSS⟩ : ∃ S, Hid (S = mS m cu []) := ⟨_, hideIt rfl⟩
  have hbb : w.heap.size ≤ w.heap.size ∧ w.heap.size < w.heap.size + 1 ∧ w.heap.size + 1 < w.heap.size + 2 := ⟨by omega, by omega, by omega⟩
  have b1 : Below w.heap.size w (w.alloc (.cells zero61 61)) := one_alloc _ _
  have b2 : Below w.heap.size w ((w.alloc (.cells zero61 61)).alloc (.cells zero61 61)) := b1.trans ((one_alloc _ _).mono (by simp))
  have A0 : SB w ((w.alloc (.cells zero61 61)).alloc (.cells zero61 61)) w.heap.size (w.heap.size + 1) (w.heap.size + 2) (fun j => False) 0 S := by
    have hx := stx_new (w.alloc (.cells zero61 61)) (w.heap.size + 2) S
    rw [show (w.alloc (.cells zero61 61)).heap.size = w.heap.size + 1 by simp] at hx
    refine ⟨hx, ⟨zero61, ((one_alloc (w.alloc (.cells zero61 61)) _).block w.heap.size (by simp)).trans (heap_alloc_last w _), zero61_size⟩, b2, by simp, fun c _ hc => ?_⟩
    have hr := heap_alloc_last (w.alloc (.cells zero61 61)) (.cells zero61 61)
    rw [show (w.alloc (.cells zero61 61)).heap.size = w.heap.size + 1 by simp] at hr
    rw [cell_of_row _ _ _ zero61 61 (0, 0) hr]
    exact zero61_q hc
  have hsz : (w.alloc (.cells zero61 61)).heap.size = w.heap.size + 1 := by simp
  generalize hW : (w.alloc (.cells zero61 61)).alloc (.cells zero61 61) = W at *
  clear b1 b2 H K hcu
  go_enter Tryz.func23, Tryz.ntmps23
  go_upto_region 2 with fail
  go_cut [] (fun wd => SB w wd w.heap.size (w.heap.size + 1) (w.heap.size + 2) (fun j => j < 1) 0 S)
  case first =>
    obtain ⟨z, hz0, _⟩ := A0.x.ex 0 (by omega)
    have fz := A0.x.fz
    have hcl := (HH.out _ A0.b).nowc
    go_wp2
    go_meet
    case rel =>
      have hv : SCell W (w.heap.size + 2) S 0 (.int .u64 m.now) := by
        have : S.now = m.now := by rw [HSS.out]; rfl
        rw [← this]; exact scell_now
      exact A0.put hbb (by omega) hv _ (fun i _ h => .inr (by omega)) (fun c _ _ => by omega)
  case rest =>
  clear A0 hW hsz hz
  have A := hcut
  clear hcut
  have hlv := (HH.out _ A.b).lv131
  go_upto_block 0 with (first | (refine wpList_load_row rfl (.tmp 19) 131 rfl ⟨D, 1, none⟩ (.agg (tsk m.tk)) rfl hlv ?_))
  clear hlv
  go_cut [] (fun wd => SB w wd w.heap.size (w.heap.size + 1) (w.heap.size + 2) (fun j => j < 49) 0 S)
  case first =>
    go_wp2_with fail
    go_loopg [21] 16 (fun g v wr => ∃ i : Nat, i + g = 16 ∧ v = .int .i64 (i : Int) ∧ SB w wr w.heap.size (w.heap.size + 1) (w.heap.size + 2) (fun j => j < 1 + i * 3) 0 S)
    case atStart => exact ⟨0, by omega, rfl, A⟩
    case round =>
      clear A
      obtain ⟨i, hi, rfl, A⟩ := hrel
      by_cases hi16 : i < 16
      · have i0 : (0 : Int) ≤ i := by omega
        have i1 : (i : Int) < 16 := by omega
        go_upto_region 6 with (first | (refine wpList_index131 rfl (.tmp 20) (.tmp 21) rfl hi16 rfl rfl ?_) | go_in)
        have HV : Hid (∀ wr : World, SCell wr (w.heap.size + 2) S (1 + i * 3) (.int .u8 (m.tk i).1) ∧ SCell wr (w.heap.size + 2) S (1 + i * 3 + 1) (.int .i64 (m.tk i).2.1) ∧ SCell wr (w.heap.size + 2) S (1 + i * 3 + 2) (.int .i64 (m.tk i).2.2)) := hideIt (fun wr => by
          have : S.tk i = m.tk i := by rw [HSS.out]; rfl
          have q := scell_task (w := wr) (base := w.heap.size + 2) (S := S) hi16
          rw [this] at q
          exact q)
        generalize (m.tk i).1 = st at *
        generalize (m.tk i).2.1 = hm at *
        generalize (m.tk i).2.2 = ba at *
        have b1 := one_alloc wr (.cells #[.int .u8 st, .int .i64 hm, .int .i64 ba] 130)
        have A1 := A.grow b1
        obtain ⟨z0, y0, _⟩ := A1.x.ex (1 + i * 3) (by omega)
        obtain ⟨z1, y1, _⟩ := A1.x.ex (1 + i * 3 + 1) (by omega)
        obtain ⟨z2, y2, _⟩ := A1.x.ex (1 + i * 3 + 2) (by omega)
        have fz := A1.x.fz
        have hs3 : ¬ (w.heap.size + 1 = wr.heap.size) := by have := A.s; omega
        clear A b1
        go_wp2
        go_roundg (16 - (i + 1))
        case measure => omega
        case rel =>
          have A2 := A1.put hbb (by omega) (HV.out _).1 (fun j => j < 1 + i * 3 + 1) (fun i _ h => by omega) (fun c _ _ => by omega)
          have A3 := A2.put hbb (by omega) (HV.out _).2.1 (fun j => j < 1 + i * 3 + 2) (fun i _ h => by omega) (fun c _ _ => by omega)
          have A4 := A3.put hbb (by omega) (HV.out _).2.2 (fun j => j < 1 + (i + 1) * 3) (fun i _ h => by omega) (fun c _ _ => by omega)
          exact ⟨i + 1, by omega, by go_num, A4⟩
      · have e : i = 16 := by omega
        subst e
        go_wp2
        go_meet
        case rel => exact A
  case rest =>
  clear A
  have A := hcut
  clear hcut
  go_upto_block 2 with fail
  go_cut [] (fun wd => SB w wd w.heap.size (w.heap.size + 1) (w.heap.size + 2) (fun j => j < 89) 4 S)
  case first =>
    go_wp2_with fail
    go_loopg [36] 4 (fun g v wr => ∃ c : Nat, c + g = 4 ∧ v = .int .i64 (c : Int) ∧ SB w wr w.heap.size (w.heap.size + 1) (w.heap.size + 2) (fun j => j < 49 + c * 10) c S)
    case atStart => exact ⟨0, by omega, rfl, A⟩
    case round =>
      clear A
      obtain ⟨c, hc, rfl, A⟩ := hrel
      by_cases hc4 : c < 4
      · have i0 : (0 : Int) ≤ c := by omega
        have i1 : (c : Int) < 4 := by omega
        have HVC : Hid (∀ wr : World, SCell wr (w.heap.size + 2) S (49 + c * 10) (.int .i64 (cu c)) ∧ (∀ v, IdsAt wr (w.heap.size + 2) v (preQ (fun b => (m.wt c).filter (fun u => decide ((m.tk u).2.2 = (b : Int)))) 4) → SCell wr (w.heap.size + 2) S (49 + c * 10 + 1) v) ∧ SCell wr (w.heap.size + 2) S (49 + c * 10 + 2) (.int .i64 ((homeN m.tk (c : Int) 16 : Nat) : Int)) ∧ ∀ f, f < 7 → SCell wr (w.heap.size + 2) S (49 + c * 10 + (3 + f)) (.int .u64 (m.st (c * 7 + f)))) := hideIt (fun wr => by
          have q := scell_core (w := wr) (base := w.heap.size + 2) (S := S) hc4
          rw [HSS.out] at q ⊢
          exact q)
        have hrun := running_any (HH.out _ A.b) (c : Int)
        go_wp2_with fail
        refine hrun.mono ?_
        rintro e w1 ⟨v, rfl, hv, rfl⟩
        have ev := HCU.out c hc4 v hv
        subst ev
        clear hrun hv
        obtain ⟨cv, ECV⟩ : ∃ v, Hid (cu c = v) := ⟨_, hideIt rfl⟩
        rw [ECV.out]
        obtain ⟨z0, y0, _⟩ := A.x.ex (49 + c * 10) (by omega)
        have fz := A.x.fz
        have B0 := A.put hbb (by omega) (HVC.out _).1 (fun j => j < 49 + c * 10 + 1) (fun i _ h => by omega) (fun c' h1 h2 => by omega)
        rw [ECV.out] at B0
        go_upto_region 13 with fail
        generalize hW1 : World.setCell w1 ⟨w.heap.size + 1, 49 + c * 10, none⟩ (.int .i64 cv) = w2 at *
        clear hW1 A fz y0
        have hhom := atHome_any (HH.out _ B0.b) (c : Int)
        obtain ⟨hn, EHN⟩ : ∃ v, Hid (homeN m.tk (c : Int) 16 = v) := ⟨_, hideIt rfl⟩
        rw [EHN.out] at hhom
        go_wp2_with fail
        refine hhom.mono ?_
        rintro e w3 ⟨rfl, hb3⟩
        have B1 := B0.grow hb3
        clear hhom hb3 B0
        obtain ⟨z2, y2, _⟩ := B1.x.ex (49 + c * 10 + 2) (by omega)
        have fz := B1.x.fz
        have V2 := (HVC.out w3).2.2.1
        rw [EHN.out] at V2
        have B2 := B1.put hbb (by omega) V2 (fun j => j < 49 + c * 10 + 1 ∨ (49 + c * 10 + 1 < j ∧ j < 49 + c * 10 + 3)) (fun i _ h => by omega) (fun c' h1 h2 => by omega)
        go_upto_region 14 with fail
        generalize hW2 : World.setCell w3 ⟨w.heap.size + 1, 49 + c * 10 + 2, none⟩ (.int .i64 (hn : Int)) = w4 at *
        clear hW2 B1 fz y2 V2
        have HS := HH.out _ B2.b
        have s0 := HS.stc (j := c * 7 + 0) (by omega)
        obtain ⟨x0, EX0⟩ : ∃ v, Hid (m.st (c * 7 + 0) = v) := ⟨_, hideIt rfl⟩
        rw [EX0.out, ← Nat.add_assoc] at s0
        obtain ⟨z0, y0, _⟩ := B2.x.ex (49 + c * 10 + 3) (by omega)
        have s1 := HS.stc (j := c * 7 + 1) (by omega)
        obtain ⟨x1, EX1⟩ : ∃ v, Hid (m.st (c * 7 + 1) = v) := ⟨_, hideIt rfl⟩
        rw [EX1.out, ← Nat.add_assoc] at s1
        obtain ⟨z1, y1, _⟩ := B2.x.ex (49 + c * 10 + 3 + 1) (by omega)
        have s2 := HS.stc (j := c * 7 + 2) (by omega)
        obtain ⟨x2, EX2⟩ : ∃ v, Hid (m.st (c * 7 + 2) = v) := ⟨_, hideIt rfl⟩
        rw [EX2.out, ← Nat.add_assoc] at s2
        obtain ⟨z2, y2, _⟩ := B2.x.ex (49 + c * 10 + 3 + 2) (by omega)
        have s3 := HS.stc (j := c * 7 + 3) (by omega)
        obtain ⟨x3, EX3⟩ : ∃ v, Hid (m.st (c * 7 + 3) = v) := ⟨_, hideIt rfl⟩
        rw [EX3.out, ← Nat.add_assoc] at s3
        obtain ⟨z3, y3, _⟩ := B2.x.ex (49 + c * 10 + 3 + 3) (by omega)
        have s4 := HS.stc (j := c * 7 + 4) (by omega)
        obtain ⟨x4, EX4⟩ : ∃ v, Hid (m.st (c * 7 + 4) = v) := ⟨_, hideIt rfl⟩
        rw [EX4.out, ← Nat.add_assoc] at s4
        obtain ⟨z4, y4, _⟩ := B2.x.ex (49 + c * 10 + 3 + 4) (by omega)
        have s5 := HS.stc (j := c * 7 + 5) (by omega)
        obtain ⟨x5, EX5⟩ : ∃ v, Hid (m.st (c * 7 + 5) = v) := ⟨_, hideIt rfl⟩
        rw [EX5.out, ← Nat.add_assoc] at s5
        obtain ⟨z5, y5, _⟩ := B2.x.ex (49 + c * 10 + 3 + 5) (by omega)
        have s6 := HS.stc (j := c * 7 + 6) (by omega)
        obtain ⟨x6, EX6⟩ : ∃ v, Hid (m.st (c * 7 + 6) = v) := ⟨_, hideIt rfl⟩
        rw [EX6.out, ← Nat.add_assoc] at s6
        obtain ⟨z6, y6, _⟩ := B2.x.ex (49 + c * 10 + 3 + 6) (by omega)
        simp only [Nat.add_zero] at s0
        have fz := B2.x.fz
        clear HS
        have V0 := fun wr => (HVC.out wr).2.2.2 0 (by omega)
        rw [EX0.out] at V0
        simp only [Nat.reduceAdd, Nat.add_zero] at V0
        have V1 := fun wr => (HVC.out wr).2.2.2 1 (by omega)
        rw [EX1.out] at V1
        simp only [Nat.reduceAdd, Nat.add_zero] at V1
        have V2 := fun wr => (HVC.out wr).2.2.2 2 (by omega)
        rw [EX2.out] at V2
        simp only [Nat.reduceAdd, Nat.add_zero] at V2
        have V3 := fun wr => (HVC.out wr).2.2.2 3 (by omega)
        rw [EX3.out] at V3
        simp only [Nat.reduceAdd, Nat.add_zero] at V3
        have V4 := fun wr => (HVC.out wr).2.2.2 4 (by omega)
        rw [EX4.out] at V4
        simp only [Nat.reduceAdd, Nat.add_zero] at V4
        have V5 := fun wr => (HVC.out wr).2.2.2 5 (by omega)
        rw [EX5.out] at V5
        simp only [Nat.reduceAdd, Nat.add_zero] at V5
        have V6 := fun wr => (HVC.out wr).2.2.2 6 (by omega)
        rw [EX6.out] at V6
        simp only [Nat.reduceAdd, Nat.add_zero] at V6
        have C0 := B2.put hbb (by omega) (V0 _) (fun j => j < 49 + c * 10 + 1 ∨ (49 + c * 10 + 1 < j ∧ j < 49 + c * 10 + 4)) (fun i _ h => by omega) (fun c' h1 h2 => by omega)
        have C1 := C0.put hbb (by omega) (V1 _) (fun j => j < 49 + c * 10 + 1 ∨ (49 + c * 10 + 1 < j ∧ j < 49 + c * 10 + 5)) (fun i _ h => by omega) (fun c' h1 h2 => by omega)
        have C2 := C1.put hbb (by omega) (V2 _) (fun j => j < 49 + c * 10 + 1 ∨ (49 + c * 10 + 1 < j ∧ j < 49 + c * 10 + 6)) (fun i _ h => by omega) (fun c' h1 h2 => by omega)
        have C3 := C2.put hbb (by omega) (V3 _) (fun j => j < 49 + c * 10 + 1 ∨ (49 + c * 10 + 1 < j ∧ j < 49 + c * 10 + 7)) (fun i _ h => by omega) (fun c' h1 h2 => by omega)
        have C4 := C3.put hbb (by omega) (V4 _) (fun j => j < 49 + c * 10 + 1 ∨ (49 + c * 10 + 1 < j ∧ j < 49 + c * 10 + 8)) (fun i _ h => by omega) (fun c' h1 h2 => by omega)
        have C5 := C4.put hbb (by omega) (V5 _) (fun j => j < 49 + c * 10 + 1 ∨ (49 + c * 10 + 1 < j ∧ j < 49 + c * 10 + 9)) (fun i _ h => by omega) (fun c' h1 h2 => by omega)
        have C6 := C5.put hbb (by omega) (V6 _) (fun j => j < 49 + c * 10 + 1 ∨ (49 + c * 10 + 1 < j ∧ j < 49 + c * 10 + 10)) (fun i _ h => by omega) (fun c' h1 h2 => by omega)
        have C : SB w _ w.heap.size (w.heap.size + 1) (w.heap.size + 2) (fun j => j < 49 + c * 10 + 1 ∨ (49 + c * 10 + 1 < j ∧ j < 49 + (c + 1) * 10)) c S := C6.mono (fun i _ h => by omega) (Nat.le_refl _)
        have HC := hideIt C
        clear C C0 C1 C2 C3 C4 C5 C6 V0 V1 V2 V3 V4 V5 V6
        go_upto_region 15 with fail
        have C := HC.out
        clear HC fz B2 s0 s1 s2 s3 s4 s5 s6 y0 y1 y2 y3 y4 y5 y6
        generalize World.setCell _ _ _ = W1 at *
        have A0 := C.start (n' := c + 1) (by omega) (C.q c (Nat.le_refl _) hc4)
        have hW1s := C.s
        clear C
        go_wp2_with fail
        go_loopg [8] 4 (fun g v wr => ∃ b : Nat, b + g = 4 ∧ v = .int .i64 (b : Int) ∧ SF w W1 wr w.heap.size (w.heap.size + 1) (w.heap.size + 2) (fun j => j < 49 + c * 10 + 1 ∨ (49 + c * 10 + 1 < j ∧ j < 49 + (c + 1) * 10)) (c + 1) S (49 + c * 10 + 1) (preQ (fun b => (m.wt c).filter (fun u => decide ((m.tk u).2.2 = (b : Int)))) b))
        case atStart => exact ⟨0, by omega, rfl, A0⟩
        case round =>
          clear A0
          obtain ⟨b, hb, rfl, A⟩ := hrel
          by_cases hb4 : b < 4
          · have j0 : (0 : Int) ≤ b := by omega
            have j1 : (b : Int) < 4 := by omega
            obtain ⟨sw, hown⟩ := (HH.out _ A.b).wrow hc4
            obtain ⟨pv, cap, ev⟩ := own_shape hown
            rw [ev] at sw
            clear hown
            obtain ⟨nl, hnl⟩ : ∃ nl, nl = (m.wt c).length := ⟨_, rfl⟩
            rw [← hnl] at sw ev
            have HNL := hideIt hnl
            have HEV := hideIt ev
            have hnl9 : nl ≤ 800 := by rw [hnl]; exact HK.out.wl c hc4
            clear hnl ev
            have HA := hideIt A
            clear A
            go_wp2_with fail
            go_loopg [75] nl (fun g v wr => ∃ j : Nat, j + g = nl ∧ v = .int .i64 (j : Int) ∧ SF w W1 wr w.heap.size (w.heap.size + 1) (w.heap.size + 2) (fun j => j < 49 + c * 10 + 1 ∨ (49 + c * 10 + 1 < j ∧ j < 49 + (c + 1) * 10)) (c + 1) S (49 + c * 10 + 1) (preQ (fun b => (m.wt c).filter (fun u => decide ((m.tk u).2.2 = (b : Int)))) b ++ ((m.wt c).take j).filter (fun u => decide ((m.tk u).2.2 = (b : Int)))))
            case atStart => exact ⟨0, by omega, rfl, by simpa using HA.out⟩
            case round =>
              clear HA sw
              obtain ⟨j, hjn, rfl, A⟩ := hrel
              by_cases hj : j < nl
              · have k0 : (0 : Int) ≤ j := by omega
                have k1 : (j : Int) < (nl : Int) := by omega
                have hbx : ∃ t, (m.wt c)[j]? = some t := ⟨(m.wt c)[j]'(by rw [← HNL.out]; exact hj), List.getElem?_eq_getElem _⟩
                obtain ⟨t, htj⟩ := hbx
                have HM := HH.out _ A.b
                have hown := (HM.wrow hc4).2
                rw [HEV.out, ← HNL.out] at hown
                have hid : ∃ g, pv = some ⟨g, 0, none⟩ ∧ wr.cell? ⟨g, j, none⟩ = some (.int .i64 (t : Int)) := by
                  rcases hown.2 with ⟨_, e2⟩ | ⟨g, cap', cur, e1, _⟩
                  · omega
                  · simp only [Value.slice.injEq] at e1
                    obtain ⟨rfl, _, _⟩ := e1
                    have := hown.cells (g := g) rfl j (.int .i64 (t : Int)) (by rw [idCells, List.getElem?_map, htj]; rfl)
                    have e : (⟨g, 0, none⟩ : Addr).add j = ⟨g, j, none⟩ := by simp [Addr.add]; intro h; exact h.symm
                    rw [e] at this
                    exact ⟨g, rfl, this⟩
                obtain ⟨g, rfl, cg⟩ := hid
                have ht16 := (HK.out.wm c hc4 t (List.mem_of_getElem? htj)).1
                have t0 : (0 : Int) ≤ t := by omega
                have t1 : (t : Int) < 16 := by omega
                have ct := (HM.task ht16).2.2
                obtain ⟨bt, EBT⟩ : ∃ v, Hid ((m.tk t).2.2 = v) := ⟨_, hideIt rfl⟩
                rw [EBT.out] at ct
                have ef : ((m.wt c).take (j + 1)).filter (fun u => decide ((m.tk u).2.2 = (b : Int))) = ((m.wt c).take j).filter (fun u => decide ((m.tk u).2.2 = (b : Int))) ++ (if bt = (b : Int) then [t] else []) := by
                  rw [take_next htj, List.filter_append]
                  congr 1
                  rw [List.filter_cons, EBT.out]
                  by_cases q : bt = (b : Int) <;> simp [q]
                have HEF := hideIt ef
                clear ef htj hown HM
                by_cases hq : bt = (b : Int)
                · have eq1 : (bt == (b : Int)) = true := beq_iff_eq.2 hq
                  have HQ := hideIt hq
                  clear hq
                  obtain ⟨p, cp, cq, ow⟩ := A.own
                  obtain ⟨l, hl⟩ : ∃ l, l = preQ (fun b => (m.wt c).filter (fun u => decide ((m.tk u).2.2 = (b : Int)))) b ++ ((m.wt c).take j).filter (fun u => decide ((m.tk u).2.2 = (b : Int))) := ⟨_, rfl⟩
                  rw [← hl] at A cq ow
                  have HLL := hideIt hl
                  have hlen : l.length ≤ 4000 := by
                    rw [hl, List.length_append]
                    have h1 : (((m.wt c).take j).filter (fun u => decide ((m.tk u).2.2 = (b : Int)))).length ≤ nl := Nat.le_trans (List.length_filter_le _ _) (by rw [List.length_take]; omega)
                    have h2 : ∀ i, (preQ (fun b => (m.wt c).filter (fun u => decide ((m.tk u).2.2 = (b : Int)))) i).length ≤ i * nl := fun i => by
                      induction i with
                      | zero => simp [preQ]
                      | succ i ih =>
                        have h3 : ((m.wt c).filter (fun u => decide ((m.tk u).2.2 = ((i : Nat) : Int)))).length ≤ nl := by rw [HNL.out]; exact List.length_filter_le _ _
                        simp only [preQ, List.length_append]
                        rw [Nat.succ_mul]
                        omega
                    have h4 := h2 b
                    have h5 : b * nl ≤ 3 * nl := Nat.mul_le_mul_right _ (by omega)
                    omega
                  clear hl
                  have fz := A.fz
                  have hsr := A.sz
                  have hb3r : w.heap.size + 1 < wr.heap.size := by omega
                  have hne3 : some (w.heap.size + 1) ≠ (Value.slice p l.length cp).ownBlock := fun e => by have := (ow.lt _ e.symm).1; omega
                  obtain ⟨i0_, hi_, hz0, hz1, hz2⟩ := info_parts info35
                  go_wp2_with (first | (at_builtin; refine wpList_append_own_at rfl (.tmp 93) (.tmp 95) 50 rfl W1.heap.size 35 i0_ (.int .i64 0) 1 8 Tryz.underlying50 hi_ hz0 hz1 hz2 rfl (by decide) (.slice p l.length cp) _ _ rfl (ow.alloc _) ⟨wr.heap.size, 0, none⟩ 1 1 [.int .i64 (t : Int)] rfl rfl (cell_one_new _ _ _) (fun x hx => by simp at hx; rw [hx]; rfl) (by unfold maxLen; omega) (by omega) (by simp; omega) ?_; intro v' w3 hown' hgrow hblk; obtain ⟨p', c', rfl⟩ := own_shape hown'; have hb3e : w3.heap[w.heap.size + 1]? = wr.heap[w.heap.size + 1]? := (hgrow.block _ (by simp; omega) hne3).trans ((one_alloc wr _).block _ hb3r); have cq3 := (World.cell?_of_block (a := ⟨w.heap.size + 1, 49 + c * 10 + 1, none⟩) hb3e).trans cq; have fz3 := fun o => (World.frozen?_of_block (a := ⟨w.heap.size + 1, o, none⟩) hb3e).trans (fz o); have HG := hideIt (And.intro hown' hgrow); clear hown' hgrow hblk hb3e) | go_in)
                  go_roundg (nl - (j + 1))
                  case measure => omega
                  case rel =>
                    obtain ⟨ho, hg⟩ := HG.out
                    refine ⟨j + 1, by omega, by go_num, ?_⟩
                    have := A.push (t := t) hbb hW1s (by omega) (by omega) (fun c' h1 h2 => by omega) ow (grown_da hg (one_alloc wr _)) ho
                    rw [HEF.out, if_pos HQ.out, ← List.append_assoc, ← HLL.out]
                    exact this
                · have eq1 : (bt == (b : Int)) = false := beq_eq_false_iff_ne.2 hq
                  have HQ := hideIt hq
                  clear hq
                  go_wp2
                  go_roundg (nl - (j + 1))
                  case measure => omega
                  case rel =>
                    refine ⟨j + 1, by omega, by go_num, ?_⟩
                    rw [HEF.out, if_neg HQ.out, List.append_nil]
                    exact A
              · have e : j = nl := by omega
                subst e
                have et : (m.wt c).take j = m.wt c := by rw [HNL.out, List.take_length]
                rw [et] at A
                clear et
                have HA := hideIt A
                clear A
                go_wp2
                go_roundg (4 - (b + 1))
                case measure => omega
                case rel => exact ⟨b + 1, by omega, by go_num, HA.out⟩
          · have e : b = 4 := by omega
            subst e
            have B := A.done (D' := fun j => j < 49 + (c + 1) * 10) hW1s (HVC.out _).2.1 (fun i _ h => by omega)
            clear A
            go_wp2
            go_roundg (4 - (c + 1))
            case measure => omega
            case rel => exact ⟨c + 1, by omega, by go_num, B⟩
      · have e : c = 4 := by omega
        subst e
        go_wp2
        go_meet
        case rel => exact A
  case rest =>
  clear A
  have A := hcut
  clear hcut
  go_upto_block 8 with fail
  go_cut [] (fun wd => SB w wd w.heap.size (w.heap.size + 1) (w.heap.size + 2) (fun j => j < 105) 4 S)
  case first =>
    go_wp2_with fail
    go_loopg [102] 16 (fun g v wr => ∃ b : Nat, b + g = 16 ∧ v = .int .i64 (b : Int) ∧ SB w wr w.heap.size (w.heap.size + 1) (w.heap.size + 2) (fun j => j < 89 + b) 4 S)
    case atStart => exact ⟨0, by omega, rfl, A⟩
    case round =>
      clear A
      obtain ⟨b, hb, rfl, A⟩ := hrel
      by_cases hb16 : b < 16
      · have i0 : (0 : Int) ≤ b := by omega
        have i1 : (b : Int) < 16 := by omega
        obtain ⟨sw, hown⟩ := (HH.out _ A.b).brow hb16
        have hcall := clone_msgs hown (by have := HK.out.bl b hb16; omega)
        have HVB : Hid (∀ wr : World, ∀ v, MsgsAt wr (w.heap.size + 2) v (m.bx b) → SCell wr (w.heap.size + 2) S (89 + b) v) := hideIt (fun wr => by
          have q := (scell_box (w := wr) (base := w.heap.size + 2) (S := S) hb16).1
          rw [HSS.out] at q ⊢
          exact q)
        clear hown
        go_wp2_with fail
        refine hcall.mono ?_
        rintro e w1 ⟨v, rfl, hms, hb1⟩
        have A1 := A.grow hb1
        have HMS := hideIt ((msgs_own hms).wide (base' := w.heap.size + 2) A.s)
        obtain ⟨p, cp, rfl⟩ := HMS.out.shape
        obtain ⟨z0, y0, _⟩ := A1.x.ex (89 + b) (by omega)
        have fz := A1.x.fz
        clear A hcall hms hb1 sw
        go_wp2
        go_roundg (16 - (b + 1))
        case measure => omega
        case rel =>
          have B0 := A1.put hbb (by omega) (HVB.out _ _ HMS.out) (fun j => j < 89 + (b + 1)) (fun i _ h => by omega) (fun c h1 h2 => by omega)
          exact ⟨b + 1, by omega, by go_num, B0⟩
      · have e : b = 16 := by omega
        subst e
        go_wp2
        go_meet
        case rel => exact A
  case rest =>
  clear A
  have A := hcut
  clear hcut
  go_upto_region 30 with fail
  go_cut [] (fun wd => SB w wd w.heap.size (w.heap.size + 1) (w.heap.size + 2) (fun j => j < 121) 4 S)
  case first =>
    have HS := HH.out _ A.b
    have s0 := HS.accc (b := 0) (by omega)
    obtain ⟨x0, EX0⟩ : ∃ v, Hid (m.ac 0 = v) := ⟨_, hideIt rfl⟩
    rw [EX0.out] at s0
    obtain ⟨z0, y0, _⟩ := A.x.ex 105 (by omega)
    have s1 := HS.accc (b := 1) (by omega)
    obtain ⟨x1, EX1⟩ : ∃ v, Hid (m.ac 1 = v) := ⟨_, hideIt rfl⟩
    rw [EX1.out] at s1
    obtain ⟨z1, y1, _⟩ := A.x.ex 106 (by omega)
    have s2 := HS.accc (b := 2) (by omega)
    obtain ⟨x2, EX2⟩ : ∃ v, Hid (m.ac 2 = v) := ⟨_, hideIt rfl⟩
    rw [EX2.out] at s2
    obtain ⟨z2, y2, _⟩ := A.x.ex 107 (by omega)
    have s3 := HS.accc (b := 3) (by omega)
    obtain ⟨x3, EX3⟩ : ∃ v, Hid (m.ac 3 = v) := ⟨_, hideIt rfl⟩
    rw [EX3.out] at s3
    obtain ⟨z3, y3, _⟩ := A.x.ex 108 (by omega)
    have s4 := HS.accc (b := 4) (by omega)
    obtain ⟨x4, EX4⟩ : ∃ v, Hid (m.ac 4 = v) := ⟨_, hideIt rfl⟩
    rw [EX4.out] at s4
    obtain ⟨z4, y4, _⟩ := A.x.ex 109 (by omega)
    have s5 := HS.accc (b := 5) (by omega)
    obtain ⟨x5, EX5⟩ : ∃ v, Hid (m.ac 5 = v) := ⟨_, hideIt rfl⟩
    rw [EX5.out] at s5
    obtain ⟨z5, y5, _⟩ := A.x.ex 110 (by omega)
    have s6 := HS.accc (b := 6) (by omega)
    obtain ⟨x6, EX6⟩ : ∃ v, Hid (m.ac 6 = v) := ⟨_, hideIt rfl⟩
    rw [EX6.out] at s6
    obtain ⟨z6, y6, _⟩ := A.x.ex 111 (by omega)
    have s7 := HS.accc (b := 7) (by omega)
    obtain ⟨x7, EX7⟩ : ∃ v, Hid (m.ac 7 = v) := ⟨_, hideIt rfl⟩
    rw [EX7.out] at s7
    obtain ⟨z7, y7, _⟩ := A.x.ex 112 (by omega)
    have s8 := HS.accc (b := 8) (by omega)
    obtain ⟨x8, EX8⟩ : ∃ v, Hid (m.ac 8 = v) := ⟨_, hideIt rfl⟩
    rw [EX8.out] at s8
    obtain ⟨z8, y8, _⟩ := A.x.ex 113 (by omega)
    have s9 := HS.accc (b := 9) (by omega)
    obtain ⟨x9, EX9⟩ : ∃ v, Hid (m.ac 9 = v) := ⟨_, hideIt rfl⟩
    rw [EX9.out] at s9
    obtain ⟨z9, y9, _⟩ := A.x.ex 114 (by omega)
    have s10 := HS.accc (b := 10) (by omega)
    obtain ⟨x10, EX10⟩ : ∃ v, Hid (m.ac 10 = v) := ⟨_, hideIt rfl⟩
    rw [EX10.out] at s10
    obtain ⟨z10, y10, _⟩ := A.x.ex 115 (by omega)
    have s11 := HS.accc (b := 11) (by omega)
    obtain ⟨x11, EX11⟩ : ∃ v, Hid (m.ac 11 = v) := ⟨_, hideIt rfl⟩
    rw [EX11.out] at s11
    obtain ⟨z11, y11, _⟩ := A.x.ex 116 (by omega)
    have s12 := HS.accc (b := 12) (by omega)
    obtain ⟨x12, EX12⟩ : ∃ v, Hid (m.ac 12 = v) := ⟨_, hideIt rfl⟩
    rw [EX12.out] at s12
    obtain ⟨z12, y12, _⟩ := A.x.ex 117 (by omega)
    have s13 := HS.accc (b := 13) (by omega)
    obtain ⟨x13, EX13⟩ : ∃ v, Hid (m.ac 13 = v) := ⟨_, hideIt rfl⟩
    rw [EX13.out] at s13
    obtain ⟨z13, y13, _⟩ := A.x.ex 118 (by omega)
    have s14 := HS.accc (b := 14) (by omega)
    obtain ⟨x14, EX14⟩ : ∃ v, Hid (m.ac 14 = v) := ⟨_, hideIt rfl⟩
    rw [EX14.out] at s14
    obtain ⟨z14, y14, _⟩ := A.x.ex 119 (by omega)
    have s15 := HS.accc (b := 15) (by omega)
    obtain ⟨x15, EX15⟩ : ∃ v, Hid (m.ac 15 = v) := ⟨_, hideIt rfl⟩
    rw [EX15.out] at s15
    obtain ⟨z15, y15, _⟩ := A.x.ex 120 (by omega)
    have fz := A.x.fz
    clear HS
    simp only [Nat.reduceAdd] at s0 s1 s2 s3 s4 s5 s6 s7 s8 s9 s10 s11 s12 s13 s14 s15
    go_wp2
    go_meet
    case rel =>
      have HVA : ∀ (wr : World) (b : Nat), b < 16 → SCell wr (w.heap.size + 2) S (105 + b) (.int .u64 (m.ac b)) := fun wr b hb => by
        have q := (scell_box (w := wr) (base := w.heap.size + 2) (S := S) hb).2
        rw [HSS.out] at q ⊢
        exact q
      have V0 := fun wr => HVA wr 0 (by omega)
      rw [EX0.out] at V0
      have V1 := fun wr => HVA wr 1 (by omega)
      rw [EX1.out] at V1
      have V2 := fun wr => HVA wr 2 (by omega)
      rw [EX2.out] at V2
      have V3 := fun wr => HVA wr 3 (by omega)
      rw [EX3.out] at V3
      have V4 := fun wr => HVA wr 4 (by omega)
      rw [EX4.out] at V4
      have V5 := fun wr => HVA wr 5 (by omega)
      rw [EX5.out] at V5
      have V6 := fun wr => HVA wr 6 (by omega)
      rw [EX6.out] at V6
      have V7 := fun wr => HVA wr 7 (by omega)
      rw [EX7.out] at V7
      have V8 := fun wr => HVA wr 8 (by omega)
      rw [EX8.out] at V8
      have V9 := fun wr => HVA wr 9 (by omega)
      rw [EX9.out] at V9
      have V10 := fun wr => HVA wr 10 (by omega)
      rw [EX10.out] at V10
      have V11 := fun wr => HVA wr 11 (by omega)
      rw [EX11.out] at V11
      have V12 := fun wr => HVA wr 12 (by omega)
      rw [EX12.out] at V12
      have V13 := fun wr => HVA wr 13 (by omega)
      rw [EX13.out] at V13
      have V14 := fun wr => HVA wr 14 (by omega)
      rw [EX14.out] at V14
      have V15 := fun wr => HVA wr 15 (by omega)
      rw [EX15.out] at V15
      have C0 := A.put hbb (by omega) (V0 _) (fun j => j < 106) (fun i _ h => by omega) (fun c h1 h2 => by omega)
      have C1 := C0.put hbb (by omega) (V1 _) (fun j => j < 107) (fun i _ h => by omega) (fun c h1 h2 => by omega)
      have C2 := C1.put hbb (by omega) (V2 _) (fun j => j < 108) (fun i _ h => by omega) (fun c h1 h2 => by omega)
      have C3 := C2.put hbb (by omega) (V3 _) (fun j => j < 109) (fun i _ h => by omega) (fun c h1 h2 => by omega)
      have C4 := C3.put hbb (by omega) (V4 _) (fun j => j < 110) (fun i _ h => by omega) (fun c h1 h2 => by omega)
      have C5 := C4.put hbb (by omega) (V5 _) (fun j => j < 111) (fun i _ h => by omega) (fun c h1 h2 => by omega)
      have C6 := C5.put hbb (by omega) (V6 _) (fun j => j < 112) (fun i _ h => by omega) (fun c h1 h2 => by omega)
      have C7 := C6.put hbb (by omega) (V7 _) (fun j => j < 113) (fun i _ h => by omega) (fun c h1 h2 => by omega)
      have C8 := C7.put hbb (by omega) (V8 _) (fun j => j < 114) (fun i _ h => by omega) (fun c h1 h2 => by omega)
      have C9 := C8.put hbb (by omega) (V9 _) (fun j => j < 115) (fun i _ h => by omega) (fun c h1 h2 => by omega)
      have C10 := C9.put hbb (by omega) (V10 _) (fun j => j < 116) (fun i _ h => by omega) (fun c h1 h2 => by omega)
      have C11 := C10.put hbb (by omega) (V11 _) (fun j => j < 117) (fun i _ h => by omega) (fun c h1 h2 => by omega)
      have C12 := C11.put hbb (by omega) (V12 _) (fun j => j < 118) (fun i _ h => by omega) (fun c h1 h2 => by omega)
      have C13 := C12.put hbb (by omega) (V13 _) (fun j => j < 119) (fun i _ h => by omega) (fun c h1 h2 => by omega)
      have C14 := C13.put hbb (by omega) (V14 _) (fun j => j < 120) (fun i _ h => by omega) (fun c h1 h2 => by omega)
      have C15 := C14.put hbb (by omega) (V15 _) (fun j => j < 121) (fun i _ h => by omega) (fun c h1 h2 => by omega)
      exact C15
  case rest =>
  clear A
  have A := hcut
  clear hcut
  obtain ⟨sw, hown⟩ := (HH.out _ A.b).trow
  have hcall := clone_tms hown (by have := HK.out.tl; omega)
  clear hown
  have htl := HK.out.tl
  obtain ⟨nt, hnt⟩ : ∃ nt, nt = m.tm.length := ⟨_, rfl⟩
  rw [← hnt] at htl hcall
  have HNT := hideIt hnt
  clear hnt
  obtain ⟨Wt, HWt⟩ : ∃ Wt, Hid (Wt = wc) := ⟨_, hideIt rfl⟩
  have HAT : Hid (SB w Wt w.heap.size (w.heap.size + 1) (w.heap.size + 2) (fun j => j < 121) 4 S) := hideIt (by rw [HWt.out]; exact A)
  clear A
  have hsT : w.heap.size + 2 ≤ Wt.heap.size := HAT.out.s
  go_upto_region 31 with fail
  go_cut [] (fun wd => ∃ (p : Option Addr) (cp : Nat), wd.cell? ⟨w.heap.size + 1, 121, none⟩ = some (.slice p nt cp) ∧ Hid (wd.ownsRow Wt.heap.size 84 4 (.slice p nt cp) nt (tmCells m.tm)) ∧ Hid (∀ k, k < Wt.heap.size → wd.heap[k]? = (Wt.setCell ⟨w.heap.size + 1, 121, none⟩ (.slice p nt cp)).heap[k]?) ∧ Wt.heap.size ≤ wd.heap.size ∧ Hid (Below w.heap.size w wd))
  case first =>
    have e := HWt.out
    subst e
    obtain ⟨z0, y0, _⟩ := HAT.out.x.ex 121 (by omega)
    have hlt := HAT.out.x.lt
    have hfz := HAT.out.x.fz
    go_wp2_with fail
    refine hcall.mono ?_
    rintro e w1 ⟨v, rfl, htm, hb1⟩
    obtain ⟨p, cp, rfl⟩ := own_shape htm
    have y1 := (World.cell?_of_block (a := ⟨w.heap.size + 1, 121, none⟩) (hb1.block _ hlt)).trans y0
    have fz := fun o => (World.frozen?_of_block (a := ⟨w.heap.size + 1, o, none⟩) (hb1.block _ hlt)).trans (hfz o)
    have HB1 := hideIt (And.intro htm hb1)
    clear htm hb1 hcall
    go_wp2
    go_meet
    case rel =>
      obtain ⟨htm, hb1⟩ := HB1.out
      have hbw := HAT.out.b
      have G : w1.grownBy (w1.setCell ⟨w.heap.size + 1, 121, none⟩ (.slice p nt cp)) (some (w.heap.size + 1)) := ⟨rfl, rfl, rfl, by simp, fun k _ hk => far_set (fun e => hk (by rw [e]))⟩
      refine ⟨p, cp, World.cell?_setCell_same _ _ _ y1, hideIt (htm.kept G (.inr (fun e => by have := (htm.lt _ e).1; omega))), hideIt (fun k hk => ?_), by have := hb1.size; simpa using this, hideIt (below_cell (hbw.trans (hb1.mono hbw.size)) _ (by show w.heap.size ≤ w.heap.size + 1; omega) _)⟩
      by_cases q : k = w.heap.size + 1
      · subst q
        simp only [World.setCell, Array.getElem?_modify]
        rw [if_pos trivial, if_pos trivial, hb1.block _ hk]
      · rw [far_set q, far_set q]
        exact hb1.block k hk
  case rest =>
  clear hcall sw HWt
  obtain ⟨p, cp, c121, HOW, HFAR, hsz2, HBW⟩ := hcut
  have hso := sortTm_any HOW.out HNT.out (by omega)
  go_upto_region 32 with fail
  go_cut [] (fun wd => ∃ l' : List TmR, Hid (l'.Perm m.tm ∧ TmAsc l') ∧ Hid (wd.ownsRow Wt.heap.size 84 4 (.slice p nt cp) nt (tmCells l')) ∧ Hid (∀ k, k < Wt.heap.size → wd.heap[k]? = (Wt.setCell ⟨w.heap.size + 1, 121, none⟩ (.slice p nt cp)).heap[k]?) ∧ Wt.heap.size ≤ wd.heap.size ∧ Hid (Below w.heap.size w wd))
  case first =>
    go_wp2_with fail
    refine hso.mono ?_
    rintro e w5 ⟨rfl, l', hp, ha, ho, hg⟩
    have HG := hideIt (And.intro hp (And.intro ha (And.intro ho hg)))
    clear hp ha ho hg hso
    go_wp2
    go_meet
    case rel =>
      obtain ⟨hp, ha, ho, hg⟩ := HG.out
      have low : ∀ q, (Value.slice p nt cp).ownBlock = some q → Wt.heap.size ≤ q := fun q e => (HOW.out.lt q e).1
      have hb := HBW.out
      exact ⟨l', hideIt ⟨hp, ha⟩, hideIt ho, hideIt (fun k hk => (hg.block k (by omega) (fun e => by have := low _ e.symm; omega)).trans (HFAR.out k hk)), Nat.le_trans hsz2 hg.size, hideIt ⟨hg.os.trans hb.os, hg.tape.trans hb.tape, hg.output.trans hb.output, Nat.le_trans hb.size hg.size, fun k hk => (hg.block k (by have := hb.size; omega) (fun e => by have := low _ e.symm; omega)).trans (hb.block k hk)⟩⟩
  case rest =>
  clear hso HOW HFAR HBW c121 hsz2
  obtain ⟨l', HPA, HOW, HFAR, hsz2, HBW⟩ := hcut
  obtain ⟨S2, HS2⟩ : ∃ S2, Hid (S2 = mS m cu l') := ⟨_, hideIt rfl⟩
  have A : SB w wc w.heap.size (w.heap.size + 1) (w.heap.size + 2) (fun j => j < 122) 4 S2 := by
    have AT := HAT.out
    have hlt := AT.x.lt
    have far : ∀ k, w.heap.size + 2 ≤ k → k < Wt.heap.size → wc.heap[k]? = Wt.heap[k]? := fun k h1 h2 => (HFAR.out k h2).trans (far_set (by omega))
    refine ⟨⟨fun j hj => ?_, ?_⟩, ?_, HBW.out, by omega, fun c h1 h2 => by omega⟩
    · obtain ⟨v, hv, hd⟩ := AT.x.ex j hj
      have e3 := HFAR.out _ hlt
      by_cases q : j = 121
      · subst q
        refine ⟨_, (World.cell?_of_block (a := ⟨w.heap.size + 1, 121, none⟩) e3).trans (World.cell?_setCell_same _ _ _ hv), fun _ => ?_⟩
        have ho := HOW.out
        have hl : nt = l'.length := by rw [HNT.out]; exact HPA.out.1.length_eq.symm
        rw [hl] at ho ⊢
        rw [HS2.out]
        exact (scell_end (S := mS m cu l')).1 _ ((tms_own2 ho).wide hsT)
      · refine ⟨v, ?_, fun h => ?_⟩
        · rw [World.cell?_of_block (a := ⟨w.heap.size + 1, j, none⟩) e3, World.cell?_setCell_other _ _ _ _ (by simp <;> omega)]
          exact hv
        · have h1 := (hd (show j < 121 by omega)).keep hsz2 far
          rw [HSS.out] at h1
          rw [HS2.out]
          exact scell_tm h1 q
    · obtain ⟨cs, e1, e2⟩ := AT.x.row
      refine ⟨cs.setIfInBounds 121 (.slice p nt cp), ?_, by simpa using e2⟩
      rw [HFAR.out _ hlt]
      simp only [World.setCell, Array.getElem?_modify]
      rw [if_pos trivial, e1]
      rfl
    · obtain ⟨cs, e1, e2⟩ := AT.r
      exact ⟨cs, by rw [HFAR.out _ (by omega), far_set (by omega)]; exact e1, e2⟩
  clear HAT HOW HFAR HBW hsz2 hsT
  have HVE : Hid (∀ wr : World, SCell wr (w.heap.size + 2) S2 122 (.int .u64 m.nx)) := hideIt (fun wr => by
    have q := (scell_end (w := wr) (base := w.heap.size + 2) (S := S2)).2
    rw [HS2.out] at q ⊢
    exact q)
  go_upto_region 33 with fail
  go_cut [] (fun wd => SB w wd w.heap.size (w.heap.size + 1) (w.heap.size + 2) (fun j => j < 123) 4 S2)
  case first =>
    have hnx := (HH.out _ A.b).nxc
    obtain ⟨z0, y0, _⟩ := A.x.ex 122 (by omega)
    have fz := A.x.fz
    go_wp2
    go_meet
    case rel => exact A.put hbb (by omega) (HVE.out _) _ (fun i _ h => by omega) (fun c h1 h2 => by omega)
  case rest =>
  clear A
  have A := hcut
  clear hcut
  obtain ⟨cs, hcs, hcz⟩ := A.x.row
  obtain ⟨c2, hc2, hz2⟩ := A.r
  have HSC : Hid (∀ j u, cs[j]? = some u → SCell wc (w.heap.size + 2) S2 j u) := hideIt (fun j u hu => by
    have hj : j < 123 := by
      by_cases q : j < 123
      · exact q
      · rw [Array.getElem?_eq_none (by omega)] at hu; simp at hu
    obtain ⟨v, hv, hd⟩ := A.x.ex j hj
    rw [cell_of_row _ _ _ cs 61 (0, 0) hcs, hu] at hv
    simp only [Option.some.injEq] at hv
    rw [hv]
    exact hd hj)
  have hone : (cs.all fun x => x.oneCell') = true := by
    rw [Array.all_eq_true]
    intro i hi
    exact scell_one (HSC.out i _ (Array.getElem?_eq_getElem hi))
  have hl1 := run_loadVar_row (P := Tryz.prog) wc (w.heap.size + 1) 61 61 cs (0, 0) _ hcs Tryz.underlying61 rfl (by rw [hcz]; exact sz61)
  have hs1 := run_storeVar_row (P := Tryz.prog) wc w.heap.size 61 61 c2 cs hc2 (by rw [hcz]; exact sz61) (by omega) hone
  have HA := hideIt A
  clear A
  go_wp2_with (first | (refine wpList_load_row rfl (.tmp 3) 61 rfl ⟨w.heap.size + 1, 0, none⟩ (.agg cs) rfl hl1 ?_) | (refine wpList_store_row rfl (.tmp 2) (.tmp 135) 61 rfl ⟨w.heap.size, 0, none⟩ (.agg cs) rfl rfl hs1 ?_) | go_in)
  have A := HA.out
  have hrow : (wc.setRow w.heap.size cs).heap[w.heap.size]? = some (.cells cs 61) := setRow_row hc2
  have hfar : ∀ q, q ≠ w.heap.size → (wc.setRow w.heap.size cs).heap[q]? = wc.heap[q]? := fun q hq => setRow_far hq
  have hsz2 : (wc.setRow w.heap.size cs).heap.size = wc.heap.size := setRow_size _ _ _
  refine bodyPost_ret (v := .agg cs) (results_cell_row rfl _ _ w.heap.size 61 cs (0, 0) _ rfl hrow Tryz.underlying61 rfl (by rw [hcz]; exact sz61)) rfl ⟨.agg cs, S2, rfl, ⟨cs, rfl, hcz, fun j u hu => ?_⟩, ?_, ?_⟩
  · exact ((HSC.out j u hu).keep (by omega) (fun q h1 h2 => hfar q (by omega))).wide (by omega)
  · rw [HS2.out]
    exact ⟨rfl, fun _ _ => rfl, fun _ _ => rfl, fun _ _ => rfl, fun _ _ => rfl, fun _ _ => rfl, fun _ _ => rfl, fun _ _ => rfl, HPA.out, rfl⟩
  · have hb := A.b
    exact ⟨hb.os, hb.tape, hb.output, by have := hb.size; omega, fun q hq => (hfar q (by omega)).trans (hb.block q hq)⟩
end Go.Proofs.Qxb6500877aGreatDoor
