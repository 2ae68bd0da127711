import Derived.Test.Qxb6500877aGreatDoorPXe
import Derived.Test.Qxb6500877aGreatDoorUXc
set_option linter.unusedVariables false
set_option linter.unusedSimpArgs false
namespace Go.Proofs.Qxb6500877aGreatDoor
open Go.RowKit



theorem z190 : Tryz.zeroCells190.setIfInBounds 6752 .nilIface = zcells := by kernel_rfl
theorem WheelPre.drew {w : World} {B : Nat} {s : Wheel} (h : WheelPre w B s) : WheelPre w.drew B s := ⟨h.cell, h.mp, h.frz⟩
/-- A machine that has been made. -/
theorem Raw.mach {w w1 w2 : World} {B : Nat} (R : Raw w B) (h2 : 2 < B) (hlt : B < w.heap.size) (V : Vac w) (TB : TabAt w) (M1 : Mut B 0 1939 w w1) (hc : w1.cell? ⟨B, 0, none⟩ = some (.int .u64 0)) (T : ∃ s', TimersAt w1 B 0 s' (fun _ => none) ∧ WInv s' (fun _ => []) (List.range' 0 64) (fun _ => none) [] ∧ s'.now = 0 ∧ s'.mb = w.heap.size ∧ s'.nid = 1) {s0 : Sched} (S : SchedAt w2 B s0 ∧ SOk s0) (M2 : Mut B 6596 6724 w1 w2) : Mach w2 B w.heap.size 0 0 net0 τ0 ⟨s0, fun _ => 0⟩ := by
  have hcell : ∀ o, 1939 ≤ o → ¬ (6596 ≤ o ∧ o < 6724) → w2.cell? ⟨B, o, none⟩ = w.cell? ⟨B, o, none⟩ := fun o h3 h4 => by rw [M2.cell o h4, M1.cell o (by omega)]
  obtain ⟨s', T, I, e1, e2, e3⟩ := T
  have TW0 : TW s' (fun _ => []) (List.range' 0 64) (fun _ => none) τ0 0 := ⟨⟨fun r => List.Pairwise.nil, fun x hx => by simp at hx, fun k z x hx => by simp at hx, fun k z h => absurd rfl h, fun x hx => by rcases hx with h | ⟨r, h⟩ <;> simp at h, fun x hx => .inl (by simp; omega)⟩, rfl, e3, by rw [e3]; omega, by rw [e3]; omega⟩
  refine ⟨by rw [M2.cell _ (by omega)]; exact hc, by omega, ⟨s', _, _, _, T.mut M2 (by omega), I, e1, e2, TW0⟩, ⟨⟨fun o ho => ?_, fun o => by rw [M2.frz, M1.frz]; exact R.frz o⟩, net0_ok⟩, S, fun j hj => ?_, fun j => ⟨by show (0 : Int) ≤ 0; omega, by show (0 : Int) < _; omega⟩, ?_, (V.mut M1 (by omega)).mut M2 (by omega), (TB.mut M1 h2).mut M2 h2, h2, by omega⟩
  · rw [hcell _ (by omega) (by omega), R.cell _ (by omega), net0_enc ho]
  · rw [hcell _ (by omega) (by omega), R.cell _ (by omega)]
    unfold zcell
    rw [if_neg (by omega), if_neg (by omega), if_neg (by omega), if_neg (by omega), if_neg (by omega), if_neg (by omega), if_neg (by omega), if_pos (by omega)]
  · rw [hcell _ (by omega) (by omega), R.cell _ (by omega)]
    rfl
theorem Below.of_mut {w w1 w2 : World} {B lo hi : Nat} (h : Below w.heap.size w w1) (M : Mut B lo hi w1 w2) (hB : w.heap.size ≤ B) : Below w.heap.size w w2 :=
  ⟨M.os.trans h.os, M.tape.trans h.tape, M.output.trans h.output, Nat.le_trans h.size M.size, fun k hk => (M.block k (Nat.lt_of_lt_of_le hk h.size) (by omega)).trans (h.block k hk)⟩

set_option maxHeartbeats 4000000 in
theorem newWith_any {w : World} (V : Vac w) (TB : TabAt w) (h2 : 2 < w.heap.size) :
    Calls Tryz.prog 57 #[.agg #[.int .u64 0, .nilIface]] w fun e w' => ∃ B mb σ, e = .returned (.pointer (some ⟨B, 0, none⟩)) ∧ Mach w' B mb 0 0 net0 τ0 σ ∧ w.heap.size ≤ B ∧ w.heap.size ≤ mb ∧ Below w.heap.size w w' := by
  go_enter Tryz.func57, Tryz.ntmps57
  go_upto_region 1 with fail
  go_cut [3] (fun a3 wc => ∃ B, a3 = .pointer (some ⟨B, 0, none⟩) ∧ w.heap.size < B ∧ Raw wc B ∧ wc.cell? ⟨w.heap.size, 0, none⟩ = some (.int .u64 0) ∧ Below w.heap.size w wc)
  case first =>
    go_wp2
    go_meet
    case rel =>
      have hr := raw_new (w.alloc (.cells #[.int .u64 0, .nilIface] 118)) 190
      have hs : (w.alloc (.cells #[.int .u64 0, .nilIface] 118)).heap.size = w.heap.size + 1 := by simp
      rw [hs] at hr
      have hb : Below w.heap.size w ((w.alloc (.cells #[.int .u64 0, .nilIface] 118)).alloc (.cells zcells 190)) := (one_alloc _ _).trans ((one_alloc _ _).mono (by omega))
      have h0 : (w.alloc (.cells #[.int .u64 0, .nilIface] 118)).cell? ⟨w.heap.size, 0, none⟩ = some (.int .u64 0) := by simp
      have h1 := cell_later (one_alloc (w.alloc (.cells #[.int .u64 0, .nilIface] 118)) (.cells zcells 190)) h0
      rw [z190]
      exact ⟨w.heap.size + 1, rfl, by omega, hr, h1, hb⟩
  case rest =>
    obtain ⟨B, rfl, hB, R, hcfg, hbc⟩ := hcut
    have hlt : B < wc.heap.size := World.block_lt_of_cell? _ _ (R.cell 0 (by omega))
    have c0 : wc.cell? ⟨B, 0, none⟩ = some (.int .u64 0) := R.cell 0 (by omega)
    have fz := R.frz
    have q1 : ¬ (w.heap.size = B) := by omega
    have q2 : ¬ (B = w.heap.size) := by omega
    have P : WheelPre (wc.setCell ⟨B, 0, none⟩ (.int .u64 0)) B wheel0 := by
      have M : Mut B 0 1 wc (wc.setCell ⟨B, 0, none⟩ (.int .u64 0)) := (Mut.refl B 0 1 wc).setCell (by omega) (by omega) _
      refine ⟨fun o ho ho' => ?_, ?_, fun o => by rw [M.frz]; exact R.frz o⟩
      · rw [M.cell _ (by omega), R.cell _ (by omega), wheel0_enc ho ho']
      · rw [M.cell _ (by omega), R.cell _ (by omega)]; rfl
    go_upto_region 3 with fail
    go_region_with (go_at_call 113; refine (wreset_t (st := 0) P.drew (by omega) (fun _ => rfl)).mono ?_; rintro e w2 ⟨rfl, T2, M2⟩)
    have T2' : ∃ s', TimersAt w2 B 0 s' (fun _ => none) ∧ WInv s' (fun _ => []) (List.range' 0 64) (fun _ => none) [] ∧ s'.now = 0 ∧ s'.mb = wc.heap.size ∧ s'.nid = 1 := by
      obtain ⟨s', a1, a2, a3, a4, a5⟩ := T2
      exact ⟨s', a1, a2, a3, a4.trans (by simp), a5⟩
    have M02 : Mut B 0 1939 wc w2 := ((Mut.refl B 0 1939 wc).setCell (o := 0) (by omega) (by omega) (.int .u64 0)).drew.trans (M2.mono (by omega) (by omega))
    have c02 : w2.cell? ⟨B, 0, none⟩ = some (.int .u64 0) := by
      rw [M2.cell 0 (by omega)]
      exact World.cell?_setCell_same _ _ _ c0
    have Vc : Vac wc := ⟨cell_later hbc V.v0, cell_later hbc V.v1, cell_later hbc V.v2, cell_later hbc V.v3, cell_later hbc V.v4⟩
    have Tc : TabAt wc := TB.below hbc
    have S2 : SchedAt w2 B sched0 := ⟨fun o ho => by rw [M02.cell _ (by omega), R.cell _ (by omega), sched0_enc ho], fun o => by rw [M02.frz]; exact R.frz o⟩
    have V2 : Vac w2 := Vc.mut M02 (by omega)
    clear c0 fz P T2 M2
    go_wp2_with fail
    refine (sreset_any S2 V2 (by omega)).mono ?_
    rintro e w3 ⟨rfl, ⟨s3, S3⟩, M3⟩
    go_wp2
    go_ret
    exact ⟨B, wc.heap.size, _, rfl, R.mach (by omega) hlt Vc Tc M02 c02 T2' S3 M3, by omega, hbc.size, Below.of_mut (Below.of_mut hbc M02 (by omega)) M3 (by omega)⟩
set_option maxHeartbeats 1000000 in
theorem new_any {w : World} (V : Vac w) (TB : TabAt w) (h2 : 2 < w.heap.size) :
    Calls Tryz.prog 17 #[] w fun e w' => ∃ B mb σ, e = .returned (.pointer (some ⟨B, 0, none⟩)) ∧ Mach w' B mb 0 0 net0 τ0 σ ∧ w.heap.size ≤ B ∧ w.heap.size ≤ mb ∧ Below w.heap.size w w' := by
  go_enter Tryz.func17, Tryz.ntmps17
  go_wp2_with fail
  refine (newWith_any V TB h2).mono ?_
  rintro e w1 ⟨B, mb, σ, rfl, h⟩
  go_wp2
  go_ret
  exact ⟨B, mb, σ, rfl, h⟩

end Go.Proofs.Qxb6500877aGreatDoor
