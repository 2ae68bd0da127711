import Derived.Deep.CutBlock
import Derived.OwnWalk
import Derived.Maps.AppendAt
import Derived.Test.Qxb6500877aGreatDoorZj
import Derived.Test.Qxb6500877aGreatDoorXb
set_option linter.unusedVariables false
set_option linter.unusedSimpArgs false
namespace Go.Proofs.Qxb6500877aGreatDoor
open Go.RowKit

def schedE : Sched := ⟨fun _ => ⟨0, -1, 0, -1, -1⟩, fun _ _ => -1, fun _ _ => -1, fun _ => 0, fun _ => 0, fun _ => -1, fun _ => 0⟩
def σE : Sg := ⟨schedE, fun _ => 0⟩
theorem emptied_enc {s : Sched} (h : Emptied s 16 4) {o : Nat} (ho : o < 128) : s.enc o = schedE.enc o := by
  unfold Sched.enc
  by_cases h1 : o < 80
  · rw [if_pos h1, if_pos h1, h.tk (o / 5) (by omega)]
    rfl
  · rw [if_neg h1, if_neg h1]
    by_cases h2 : o < 120
    · rw [if_pos h2, if_pos h2]
      obtain ⟨e1, e2, e3, e4, e5⟩ := h.qu ((o - 80) / 10) (by omega)
      unfold Sched.qCell
      by_cases h3 : (o - 80) % 10 < 8
      · obtain ⟨f1, f2⟩ := e1 ((o - 80) % 10 / 2) (by omega)
        rw [if_pos h3, if_pos h3, f1, f2]
        rfl
      · rw [if_neg h3, if_neg h3, e2, e3]
        rfl
    · rw [if_neg h2, if_neg h2]
      by_cases h3 : o < 124
      · rw [if_pos h3, if_pos h3, (h.qu (o - 120) (by omega)).2.2.2.1]
        rfl
      · rw [if_neg h3, if_neg h3, (h.qu (o - 124) (by omega)).2.2.2.2]
        rfl
theorem sched_e {w : World} {B : Nat} {s : Sched} (S : SchedAt w B s) (E : Emptied s 16 4) : SchedAt w B schedE ∧ SOk schedE :=
  ⟨⟨fun o ho => by rw [S.cell o ho, emptied_enc E ho], S.frz⟩, Emptied.ok ⟨fun _ _ => rfl, fun _ _ => ⟨fun _ _ => ⟨rfl, rfl⟩, rfl, rfl, rfl, rfl⟩⟩⟩
set_option maxHeartbeats 4000000 in
theorem sreset_any3 {w : World} {B : Nat} {s : Sched} (H : SchedAt w B s) (V : Vac w) (hB : 0 < B) :
    Calls Tryz.prog 114 #[.pointer (some ⟨B, 6596, none⟩)] w fun e w' => e = .returned (.tuple #[]) ∧ (SchedAt w' B schedE ∧ SOk schedE) ∧ Mut B 6596 6724 w w' := by
  have hB0 : ¬ (B = 0) := by omega
  have hB1 : ¬ (0 = B) := by omega
  go_enter Tryz.func114, Tryz.ntmps114
  go_wp2_with fail
  go_loopg [6] 16 (fun g v wr => ∃ (t : Nat) (s' : Sched), t + g = 16 ∧ v = .int .i64 (t : Int) ∧ SchedAt wr B s' ∧ Emptied s' t 0 ∧ Mut B 6596 6724 w wr)
  case atStart => exact ⟨0, s, by omega, rfl, H, ⟨fun x hx => by omega, fun d hd => by omega⟩, Mut.refl _ _ _ _⟩
  case round =>
    obtain ⟨t, s', htg, rfl, H1, E1, M1⟩ := hrel
    by_cases ht : t < 16
    · obtain ⟨t0, t1, t2, t3, t4⟩ := H1.task ht
      have i0 : (0 : Int) ≤ t := by omega
      have i1 : (t : Int) < 16 := by omega
      obtain ⟨v0, v1, v2, v3, v4⟩ := V.mut M1 hB
      have fz := H1.frz
      go_wp2_with fail
      go_region_held3 (fun w' => w'.cell? ⟨0, 0, none⟩ = some (.int .u8 0) ∧ w'.cell? ⟨0, 1, none⟩ = some (.int .i64 (-1)) ∧ w'.cell? ⟨0, 2, none⟩ = some (.int .i8 0) ∧ w'.cell? ⟨0, 3, none⟩ = some (.int .i8 (-1)) ∧ w'.cell? ⟨0, 4, none⟩ = some (.int .i8 (-1))) (refine ⟨?_, ?_, ?_, ?_, ?_⟩ <;> go_simp) (fail)
      go_wp2
      go_roundg (16 - (t + 1))
      case measure => omega
      case rel => exact ⟨t + 1, _, by omega, by go_num, (((((H1.putSt ht _).putHome ht _).putBand ht _).putPrev ht _).putNext ht _).drew, E1.row, M1.trans ((((((Mut.refl B 6596 6724 _).setCell (by omega) (by omega) _).setCell (by omega) (by omega) _).setCell (by omega) (by omega) _).setCell (by omega) (by omega) _).setCell (by omega) (by omega) _).drew⟩
    · have e16 : t = 16 := by omega
      subst e16
      clear ht htg
      go_wp2_with fail
      go_loopg [16] 4 (fun g v wr => ∃ (c : Nat) (s' : Sched), c + g = 4 ∧ v = .int .i64 (c : Int) ∧ SchedAt wr B s' ∧ Emptied s' 16 c ∧ Mut B 6596 6724 w wr)
      case atStart => exact ⟨0, s', by omega, rfl, H1, E1, M1⟩
      case round =>
        clear H1 E1 M1
        obtain ⟨c, s2, hcg, rfl, H2, E2, M2⟩ := hrel
        by_cases hc : c < 4
        · have j0 : (0 : Int) ≤ c := by omega
          have j1 : (c : Int) < 4 := by omega
          go_wp2_with fail
          go_loopg [24] 4 (fun g v wr => ∃ (k : Nat) (s' : Sched), k + g = 4 ∧ v = .int .i64 (k : Int) ∧ SchedAt wr B s' ∧ Emptied s' 16 c ∧ (∀ b, b < k → s'.hd c b = -1 ∧ s'.tl c b = -1) ∧ Mut B 6596 6724 w wr)
          case atStart => exact ⟨0, s2, by omega, rfl, H2, E2, fun b hb => by omega, M2⟩
          case round =>
            clear H2 E2 M2
            obtain ⟨k, s3, hkg, rfl, H3, E3, B3, M3⟩ := hrel
            by_cases hk : k < 4
            · have q := H3.queue hc
              have z0 := (q.1 k hk).1
              have z1 := (q.1 k hk).2
              have k0 : (0 : Int) ≤ k := by omega
              have k1 : (k : Int) < 4 := by omega
              have fz := H3.frz
              clear q
              have HB := hideIt B3
              clear B3
              go_wp2
              go_roundg (4 - (k + 1))
              case measure => omega
              case rel =>
                refine ⟨k + 1, _, by omega, by go_num, (H3.putHd hc hk _).putTl hc hk _, ⟨E3.tk, fun d hd => ?_⟩, fun b hb => ?_, M3.trans (((Mut.refl B 6596 6724 _).setCell (by omega) (by omega) _).setCell (by omega) (by omega) _)⟩
                · obtain ⟨e1, e2⟩ := E3.qu d hd
                  refine ⟨fun b hb => ?_, e2⟩
                  have : ¬ (d = c ∧ b = k) := fun q => by omega
                  simp [Sched.setHd, Sched.setTl, this]
                  exact e1 b hb
                · by_cases e : b = k
                  · subst e; simp [Sched.setHd, Sched.setTl]
                  · simp [Sched.setHd, Sched.setTl, e]
                    exact HB.out b (by omega)
            · have e4 : k = 4 := by omega
              subst e4
              clear hk hkg
              have q := H3.queue hc
              have z2 := q.2.1
              have z3 := q.2.2
              obtain ⟨c0, c1⟩ := H3.core hc
              have fz := H3.frz
              clear q
              have HB := hideIt B3
              clear B3
              have n0 : ¬ (6676 + c * 10 + 8 = 6676 + c * 10 + 9) := by omega
              have n1 : ¬ (6676 + c * 10 + 9 = 6676 + c * 10 + 8) := by omega
              have n2 : ¬ (6676 + c * 10 + 8 = 6716 + c) := by omega
              have n3 : ¬ (6716 + c = 6676 + c * 10 + 8) := by omega
              have n4 : ¬ (6676 + c * 10 + 8 = 6720 + c) := by omega
              have n5 : ¬ (6720 + c = 6676 + c * 10 + 8) := by omega
              have n6 : ¬ (6676 + c * 10 + 9 = 6716 + c) := by omega
              have n7 : ¬ (6716 + c = 6676 + c * 10 + 9) := by omega
              have n8 : ¬ (6676 + c * 10 + 9 = 6720 + c) := by omega
              have n9 : ¬ (6720 + c = 6676 + c * 10 + 9) := by omega
              have n10 : ¬ (6716 + c = 6720 + c) := by omega
              have n11 : ¬ (6720 + c = 6716 + c) := by omega
              go_wp2
              go_roundg (4 - (c + 1))
              case measure => omega
              case rel =>
                refine ⟨c + 1, _, by omega, by go_num, (((H3.putFl hc _).putQn hc _).putCur hc _).putLd hc _, ⟨E3.tk, fun d hd => ?_⟩, M3.trans (((((Mut.refl B 6596 6724 _).setCell (by omega) (by omega) _).setCell (by omega) (by omega) _).setCell (by omega) (by omega) _).setCell (by omega) (by omega) _)⟩
                by_cases e : d = c
                · subst e
                  refine ⟨fun b hb => HB.out b hb, ?_, ?_, ?_, ?_⟩ <;> simp [Sched.setFl, Sched.setQn, Sched.setCur, Sched.setLd]
                · obtain ⟨e1, e2, e3, e4, e5⟩ := E3.qu d (by omega)
                  refine ⟨e1, ?_, ?_, ?_, ?_⟩ <;> simp [Sched.setFl, Sched.setQn, Sched.setCur, Sched.setLd, e] <;> assumption
        · have e4 : c = 4 := by omega
          subst e4
          go_wp2
          go_end0
          exact ⟨rfl, sched_e H2 E2, M2⟩

set_option maxHeartbeats 4000000 in
theorem newWith_any3 {w : World} (V : Vac w) (TB : TabAt w) (h2 : 2 < w.heap.size) :
    Calls Tryz.prog 57 #[.agg #[.int .u64 0, .nilIface]] w fun e w' => ∃ B mb, e = .returned (.pointer (some ⟨B, 0, none⟩)) ∧ Mach w' B mb 0 0 net0 τ0 σE ∧ w.heap.size ≤ B ∧ w.heap.size ≤ mb ∧ Below w.heap.size w w' := by
  go_enter Tryz.func57, Tryz.ntmps57
  go_upto_region 1 with fail
  go_cut [3] (fun a3 wc => ∃ B, a3 = .pointer (some ⟨B, 0, none⟩) ∧ w.heap.size < B ∧ Raw wc B ∧ wc.cell? ⟨w.heap.size, 0, none⟩ = some (.int .u64 0) ∧ Below w.heap.size w wc)
  case first =>
    go_wp2
    go_meet
    case rel =>
      have hr := raw_new (w.alloc (.cells #[.int .u64 0, .nilIface] 118)) 190
      have hs : (w.alloc (.cells #[.int .u64 0, .nilIface] 118)).heap.size = w.heap.size + 1 := by simp
      rw [hs] at hr
      have hb : Below w.heap.size w ((w.alloc (.cells #[.int .u64 0, .nilIface] 118)).alloc (.cells zcells 190)) := (one_alloc _ _).trans ((one_alloc _ _).mono (by omega))
      have h0 : (w.alloc (.cells #[.int .u64 0, .nilIface] 118)).cell? ⟨w.heap.size, 0, none⟩ = some (.int .u64 0) := by simp
      have h1 := cell_later (one_alloc (w.alloc (.cells #[.int .u64 0, .nilIface] 118)) (.cells zcells 190)) h0
      rw [z190]
      exact ⟨w.heap.size + 1, rfl, by omega, hr, h1, hb⟩
  case rest =>
    obtain ⟨B, rfl, hB, R, hcfg, hbc⟩ := hcut
    have hlt : B < wc.heap.size := World.block_lt_of_cell? _ _ (R.cell 0 (by omega))
    have c0 : wc.cell? ⟨B, 0, none⟩ = some (.int .u64 0) := R.cell 0 (by omega)
    have fz := R.frz
    have q1 : ¬ (w.heap.size = B) := by omega
    have q2 : ¬ (B = w.heap.size) := by omega
    have P : WheelPre (wc.setCell ⟨B, 0, none⟩ (.int .u64 0)) B wheel0 := by
      have M : Mut B 0 1 wc (wc.setCell ⟨B, 0, none⟩ (.int .u64 0)) := (Mut.refl B 0 1 wc).setCell (by omega) (by omega) _
      refine ⟨fun o ho ho' => ?_, ?_, fun o => by rw [M.frz]; exact R.frz o⟩
      · rw [M.cell _ (by omega), R.cell _ (by omega), wheel0_enc ho ho']
      · rw [M.cell _ (by omega), R.cell _ (by omega)]; rfl
    go_upto_region 3 with fail
    go_region_with (go_at_call 113; refine (wreset_t (st := 0) P.drew (by omega) (fun _ => rfl)).mono ?_; rintro e w2 ⟨rfl, T2, M2⟩)
    have T2' : ∃ s', TimersAt w2 B 0 s' (fun _ => none) ∧ WInv s' (fun _ => []) (List.range' 0 64) (fun _ => none) [] ∧ s'.now = 0 ∧ s'.mb = wc.heap.size ∧ s'.nid = 1 := by
      obtain ⟨s', a1, a2, a3, a4, a5⟩ := T2
      exact ⟨s', a1, a2, a3, a4.trans (by simp), a5⟩
    have M02 : Mut B 0 1939 wc w2 := ((Mut.refl B 0 1939 wc).setCell (o := 0) (by omega) (by omega) (.int .u64 0)).drew.trans (M2.mono (by omega) (by omega))
    have c02 : w2.cell? ⟨B, 0, none⟩ = some (.int .u64 0) := by
      rw [M2.cell 0 (by omega)]
      exact World.cell?_setCell_same _ _ _ c0
    have Vc : Vac wc := ⟨cell_later hbc V.v0, cell_later hbc V.v1, cell_later hbc V.v2, cell_later hbc V.v3, cell_later hbc V.v4⟩
    have Tc : TabAt wc := TB.below hbc
    have S2 : SchedAt w2 B sched0 := ⟨fun o ho => by rw [M02.cell _ (by omega), R.cell _ (by omega), sched0_enc ho], fun o => by rw [M02.frz]; exact R.frz o⟩
    have V2 : Vac w2 := Vc.mut M02 (by omega)
    clear c0 fz P T2 M2
    go_wp2_with fail
    refine (sreset_any3 S2 V2 (by omega)).mono ?_
    rintro e w3 ⟨rfl, S3, M3⟩
    go_wp2
    go_ret
    exact ⟨B, wc.heap.size, rfl, R.mach (by omega) hlt Vc Tc M02 c02 T2' S3 M3, by omega, hbc.size, Below.of_mut (Below.of_mut hbc M02 (by omega)) M3 (by omega)⟩
set_option maxHeartbeats 1000000 in
theorem new_any3 {w : World} (V : Vac w) (TB : TabAt w) (h2 : 2 < w.heap.size) :
    Calls Tryz.prog 17 #[] w fun e w' => ∃ B mb, e = .returned (.pointer (some ⟨B, 0, none⟩)) ∧ Mach w' B mb 0 0 net0 τ0 σE ∧ w.heap.size ≤ B ∧ w.heap.size ≤ mb ∧ Below w.heap.size w w' := by
  go_enter Tryz.func17, Tryz.ntmps17
  go_wp2_with fail
  refine (newWith_any3 V TB h2).mono ?_
  rintro e w1 ⟨B, mb, rfl, h⟩
  go_wp2
  go_ret
  exact ⟨B, mb, rfl, h⟩

end Go.Proofs.Qxb6500877aGreatDoor
