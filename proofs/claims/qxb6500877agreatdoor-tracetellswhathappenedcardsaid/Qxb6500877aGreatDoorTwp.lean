import Derived.Deep.CutBlock
import Derived.OwnWalk
import Derived.Maps.AppendAt
import Derived.Test.Qxb6500877aGreatDoorTwj
import Derived.Test.Qxb6500877aGreatDoorPMp
set_option linter.unusedVariables false
set_option linter.unusedSimpArgs false
namespace Go.Proofs.Qxb6500877aGreatDoor
open Go.RowKit

namespace W
/-- What is told of a sending step. -/
def tellS (t : Nat) (ν : Net) (o : OpS) (c : Int) : List EvS := if kindB o.c = true then (if o.kd = 5 then tellB t ν (argF 4 o.a) c else tellM t c (evS t ν (argF 4 o.a) (argF 4 o.b))) else [evR t c]
theorem tellS_5 {t : Nat} {ν : Net} {o : OpS} {c : Int} (h : kindB o.c = true) (h5 : o.kd = 5) : tellS t ν o c = tellB t ν (argF 4 o.a) c := by rw [tellS, if_pos h, if_pos h5]
theorem tellS_4 {t : Nat} {ν : Net} {o : OpS} {c : Int} (h : kindB o.c = true) (h5 : ¬ o.kd = 5) : tellS t ν o c = tellM t c (evS t ν (argF 4 o.a) (argF 4 o.b)) := by rw [tellS, if_pos h, if_neg h5]
theorem tellS_no {t : Nat} {ν : Net} {o : OpS} {c : Int} (h : kindB o.c = false) : tellS t ν o c = [evR t c] := by rw [tellS, if_neg (by simp [h])]
set_option maxRecDepth 20000 in
set_option maxHeartbeats 8000000 in
theorem stepSend_m {w : World} {B mb t k : Nat} {ν : Net} {τ : TSt} {σ : Sg} {Λ : LS} {b base : Nat} (M : Mach w B mb t k ν τ σ Λ) (hl : Λ.l.length < 999999000) (hk : k < 800000) (o : OpS) (R : ResX w b ⟨0, -1, -1, 0⟩) (hfb : Far Λ b) (hbb : base ≤ b) (hB : B < base) (hm : mb < base) (hbase : base ≤ w.heap.size) :
    Calls Tryz.prog 67 #[.pointer (some ⟨B, 0, none⟩), opV o, .pointer (some ⟨b, 0, none⟩)] w fun e w' => ∃ (c : Int) (ν' : Net), e = .returned (.tuple #[]) ∧ (∃ Λ', Near base w w' B mb t (k + 4) ν' τ (stSg σ o c) Λ Λ' ∧ Λ'.l = Λ.l ++ tellS t ν o c) ∧ ResX w' b (sendRS o c) ∧ w'.cell? ⟨b, 0, none⟩ = some (.int .i64 c) ∧ StepSend o t ν c ν' := by
  have hblt := R.lt
  have h2 := M.hB
  generalize hW : w.alloc (.cells #[.int .u8 o.kd, .int .i64 o.a, .int .i64 o.b, .int .i64 o.c, .int .u64 o.x, .int .u64 o.y] 32) = W at *
  have hb0 : Below w.heap.size w W := by rw [← hW]; exact one_alloc _ _
  have hsz : W.heap.size = w.heap.size + 1 := by rw [← hW]; simp
  have OW : OpAt W w.heap.size o := by rw [← hW]; exact op_new w o 32
  have FL : ∀ q, w.heap.size ≤ q → Far Λ q := fun q hq => M.far hq
  have NW : Near base w W B mb t k ν τ σ Λ Λ := (Near.refl M).below hb0 hbase
  have RW : ResX W b ⟨0, -1, -1, 0⟩ := R.blk (hb0.block b hblt)
  clear R hb0
  have hka := kindArg_any o.c W
  unfold opV
  by_cases hko : kindB o.c = true
  · rw [hko] at hka
    have HKO := hideIt hko
    clear hko
    have OW' := OW
    obtain ⟨g0, g1, g2, g3, g4, g5⟩ := OW
    go_enter Tryz.func67, Tryz.ntmps67
    go_wp2_with fail
    refine hka.mono ?_
    rintro e W ⟨rfl, rfl⟩
    go_upto_region 4 with fail
    go_cut [8] (fun a8 wc => ∃ b8 : Nat, a8 = .pointer (some ⟨b8, 0, none⟩) ∧ w.heap.size < b8 ∧ b8 < wc.heap.size ∧ Near base w wc B mb t k ν τ σ Λ Λ ∧ ResX wc b ⟨0, -1, -1, 0⟩ ∧ OpAt wc w.heap.size o ∧ wc.cell? ⟨b8, 0, none⟩ = some (.int .u64 o.x) ∧ wc.cell? ⟨b8, 1, none⟩ = some (.int .u64 o.y) ∧ wc.cell? ⟨b8, 2, none⟩ = some (.int .u64 0) ∧ wc.cell? ⟨b8, 3, none⟩ = some (.int .u64 0))
    case first =>
      go_wp2
      go_meet
      case rel =>
        have q := quad_new W o.x o.y 0 0 38
        rw [hsz] at q
        exact ⟨w.heap.size + 1, rfl, by omega, by simp [hsz], NW.below (one_alloc _ _) hbase, RW.blk ((one_alloc W _).block b (by omega)), OW'.blk ((one_alloc W _).block _ (by omega)), q⟩
    case rest =>
      obtain ⟨b8, rfl, hb8, hb8', NC, RC, OC, x0, x1, x2, x3⟩ := hcut
      clear g0 g1 g2 g3 g4 g5 hka OW' NW RW
      obtain ⟨g0, g1, g2, g3, g4, g5⟩ := OC
      have MD := NC.m.drew
      have hbc := RC.lt
      generalize hkr : kindR o.c = kr
      have HKR := hideIt hkr
      clear hkr
      by_cases h5 : o.kd = 5
      · rw [h5] at g0
        have H5 := hideIt h5
        clear h5
        go_upto_region 6 with fail
        go_cut [] (fun wd => ∃ (c : Int) (ν' : Net) (Λ1 : LS), (Near base w wd B mb t (k + 4) ν' τ (bcSg σ (argF 4 o.a) c) Λ Λ1 ∧ Far Λ1 b ∧ Hid (Λ1.l = Λ.l ++ tellB t ν (argF 4 o.a) c)) ∧ ResX wd b ⟨c, -1, -1, 0⟩ ∧ wd.cell? ⟨w.heap.size, 1, none⟩ = some (.int .i64 o.a) ∧ wd.cell? ⟨b, 0, none⟩ = some (.int .i64 c) ∧ Hid (BcRes ν (argF 4 o.a) kr t o.x o.y 0 0 c ν'))
        case first =>
          go_region_with (first | (go_at_call 69; refine (coreArg_any _ _).mono ?_; rintro e wq ⟨rfl, rfl⟩) | (go_at_call 135; refine (broadcast_m (w := World.drew wc) MD hl hk _).mono ?_; rintro e w1 ⟨c1, ν1, rfl, ⟨Λ1, D1, e1⟩, hS⟩; have HE1 := hideIt e1; clear e1; have FB := D1.f.row b (show b < wc.heap.size by omega) hfb; have HS := hideIt hS; clear hS; have NR := NC.drew.done D1 hbase; have R1 := RC.drew.blk (D1.f.block b (show b < wc.heap.size by omega) (by omega) (by omega) hfb); have G1 : w1.cell? ⟨w.heap.size, 1, none⟩ = some (.int .i64 o.a) := (World.cell?_of_block (a := ⟨w.heap.size, 1, none⟩) (D1.f.block w.heap.size (show w.heap.size < wc.heap.size by omega) (by omega) (by omega) (FL _ (Nat.le_refl _)))).trans g1; obtain ⟨v0, s0⟩ := R1.code; have fz := R1.fz) | fail)
          all_goals go_wp2
          all_goals go_meet
          all_goals case rel => exact ⟨c1, ν1, Λ1, ⟨NR.fresh ⟨b, 0, none⟩ hbb hB hm FB _, FB, HE1⟩, R1.set0 _, (World.cell?_setCell_far _ _ _ _ (show b ≠ w.heap.size by omega)).trans G1, World.cell?_setCell_same _ _ _ s0, HS⟩
        case rest =>
          clear NC RC g0 g1 g2 g3 g4 g5 x0 x1 x2 x3 MD
          obtain ⟨v0, ν', Λ1, ⟨NR, FB, HE1⟩, R1, G1, s0, HS⟩ := hcut
          obtain ⟨v1, s1⟩ := R1.core
          have fz := R1.fz
          by_cases hc : v0 = 0
          · subst hc
            go_wp2
            first | go_end0 | refine bodyPost_ret (results_none rfl _ _ _) rfl ?_
            exact ⟨0, ν', rfl, ⟨Λ1, by rw [stSg_5 H5.out]; exact NR.fresh ⟨b, 1, none⟩ hbb hB hm FB _, by rw [tellS_5 HKO.out H5.out]; exact HE1.out⟩, by rw [sendRS_5 H5.out]; exact R1.set1 _, (World.cell?_setCell_other _ _ _ _ (by simp)).trans s0, .inr ⟨HKO.out, .inl ⟨H5.out, by rw [HKR.out]; exact HS.out⟩⟩⟩
          · have hcz : (v0 == 0) = false := by simpa using hc
            have HC := hideIt hc
            clear hc
            go_wp2
            first | go_end0 | refine bodyPost_ret (results_none rfl _ _ _) rfl ?_
            exact ⟨v0, ν', rfl, ⟨Λ1, by rw [stSg_5 H5.out]; exact NR, by rw [tellS_5 HKO.out H5.out]; exact HE1.out⟩, by rw [sendRS_no HC.out]; exact R1, s0, .inr ⟨HKO.out, .inl ⟨H5.out, by rw [HKR.out]; exact HS.out⟩⟩⟩
      · have hb5 : (((o.kd : Nat) : Int) == 5) = false := by simp; omega
        have H5 := hideIt h5
        clear h5
        go_upto_region 9 with fail
        go_cut [] (fun wd => ∃ (c : Int) (ν' : Net) (Λ1 : LS), (Near base w wd B mb t (k + 4) ν' τ (sendSg σ (argF 4 o.a) c) Λ Λ1 ∧ Far Λ1 b ∧ Hid (Λ1.l = Λ.l ++ tellM t c (evS t ν (argF 4 o.a) (argF 4 o.b)))) ∧ ResX wd b ⟨c, -1, -1, 0⟩ ∧ wd.cell? ⟨w.heap.size, 2, none⟩ = some (.int .i64 o.b) ∧ wd.cell? ⟨b, 0, none⟩ = some (.int .i64 c) ∧ Hid (SendRes ν (argF 4 o.a) (argF 4 o.b) kr t o.x o.y 0 0 c ν'))
        case first =>
          go_region_with (first | (go_at_call 69; refine (coreArg_any _ _).mono ?_; rintro e wq ⟨rfl, rfl⟩) | (go_at_call 136; refine (send_m (w := World.drew wc) MD hl (by omega) _ _).mono ?_; rintro e w1 ⟨c1, ν1, rfl, ⟨Λ1, D1, e1⟩, hS⟩; have HE1 := hideIt e1; clear e1; have FB := D1.f.row b (show b < wc.heap.size by omega) hfb; have HS := hideIt hS; clear hS; have NR := (NC.drew.done D1 hbase).mono (k' := k + 4) (by omega); have R1 := RC.drew.blk (D1.f.block b (show b < wc.heap.size by omega) (by omega) (by omega) hfb); have G1 : w1.cell? ⟨w.heap.size, 2, none⟩ = some (.int .i64 o.b) := (World.cell?_of_block (a := ⟨w.heap.size, 2, none⟩) (D1.f.block w.heap.size (show w.heap.size < wc.heap.size by omega) (by omega) (by omega) (FL _ (Nat.le_refl _)))).trans g2; obtain ⟨v0, s0⟩ := R1.code; have fz := R1.fz) | fail)
          all_goals go_wp2
          all_goals go_meet
          all_goals case rel => exact ⟨c1, ν1, Λ1, ⟨NR.fresh ⟨b, 0, none⟩ hbb hB hm FB _, FB, HE1⟩, R1.set0 _, (World.cell?_setCell_far _ _ _ _ (show b ≠ w.heap.size by omega)).trans G1, World.cell?_setCell_same _ _ _ s0, HS⟩
        case rest =>
          clear NC RC g0 g1 g2 g3 g4 g5 x0 x1 x2 x3 MD
          obtain ⟨v0, ν', Λ1, ⟨NR, FB, HE1⟩, R1, G1, s0, HS⟩ := hcut
          obtain ⟨v1, s1⟩ := R1.core
          have fz := R1.fz
          by_cases hc : v0 = 0
          · subst hc
            go_wp2
            first | go_end0 | refine bodyPost_ret (results_none rfl _ _ _) rfl ?_
            exact ⟨0, ν', rfl, ⟨Λ1, by rw [stSg_4 H5.out]; exact NR.fresh ⟨b, 1, none⟩ hbb hB hm FB _, by rw [tellS_4 HKO.out H5.out]; exact HE1.out⟩, by rw [sendRS_4 H5.out]; exact R1.set1 _, (World.cell?_setCell_other _ _ _ _ (by simp)).trans s0, .inr ⟨HKO.out, .inr ⟨H5.out, by rw [HKR.out]; exact HS.out⟩⟩⟩
          · have hcz : (v0 == 0) = false := by simpa using hc
            have HC := hideIt hc
            clear hc
            go_wp2
            first | go_end0 | refine bodyPost_ret (results_none rfl _ _ _) rfl ?_
            exact ⟨v0, ν', rfl, ⟨Λ1, by rw [stSg_4 H5.out]; exact NR, by rw [tellS_4 HKO.out H5.out]; exact HE1.out⟩, by rw [sendRS_no HC.out]; exact R1, s0, .inr ⟨HKO.out, .inr ⟨H5.out, by rw [HKR.out]; exact HS.out⟩⟩⟩
  · have hko' : kindB o.c = false := by simpa using hko
    have HKO := hideIt hko'
    rw [hko'] at hka
    clear hko hko'
    obtain ⟨g0, g1, g2, g3, g4, g5⟩ := OW
    obtain ⟨v0, r0⟩ := RW.code
    have fz := RW.fz
    go_enter Tryz.func67, Tryz.ntmps67
    go_wp2_with fail
    refine hka.mono ?_
    rintro e W ⟨rfl, rfl⟩
    go_wp2_with fail
    refine (refuse_any NW.m (by omega)).mono ?_
    rintro e w1 ⟨rfl, Λ1, N1, e1⟩
    have FB := N1.f.row b (by omega) hfb
    have RW := RW.blk (N1.f.block b (by omega) (by omega) (by omega) hfb)
    have NW := NW.done N1 hbase
    obtain ⟨v0, r0⟩ := RW.code
    have fz := RW.fz
    have HE1 := hideIt e1
    clear e1
    go_wp2
    first | go_end0 | refine bodyPost_ret (results_none rfl _ _ _) rfl ?_
    exact ⟨7, ν, rfl, ⟨Λ1, by rw [stSg_no (by omega)]; exact (NW.mono (by omega)).fresh ⟨b, 0, none⟩ hbb hB hm FB _, by rw [tellS_no HKO.out]; exact HE1.out⟩, by rw [sendRS_no (by omega)]; exact RW.set0 _, World.cell?_setCell_same _ _ _ r0, .inl ⟨HKO.out, rfl, rfl⟩⟩
end W
end Go.Proofs.Qxb6500877aGreatDoor
