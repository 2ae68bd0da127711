import Derived.Deep.CutBlock
import Derived.OwnWalk
import Derived.Maps.AppendAt
import Derived.Test.Qxb6500877aGreatDoorTy4
import Derived.Test.Qxb6500877aGreatDoorTw
import Derived.Test.Qxb6500877aGreatDoorQn
set_option linter.unusedVariables false
set_option linter.unusedSimpArgs false
namespace Go.Proofs.Qxb6500877aGreatDoor
open Go.RowKit

structure RawL (w : World) (B C : Nat) : Prop where
  cell : ∀ o, o < 6752 → w.cell? ⟨B, o, none⟩ = some (zcell o)
  sink : w.cell? ⟨B, 6752, none⟩ = some (.iface 110 (.pointer (some ⟨C, 0, none⟩)))
  frz : ∀ o, w.frozen? ⟨B, o, none⟩ = false
theorem RawL.raw {w : World} {B C : Nat} (h : RawL w B C) : Raw (blk0 w B) B := by
  refine ⟨fun o ho => ?_, fun o => (World.frozen?_setCell _ _ _ _).trans (h.frz o)⟩
  by_cases q : o = 6752
  · subst q
    unfold blk0
    rw [World.cell?_setCell_same _ _ _ h.sink]
    rfl
  · rw [blk_cell q]
    exact h.cell o (by omega)
theorem raw_live {C : Nat} (w : World) : RawL (w.alloc (.cells (Tryz.zeroCells190.setIfInBounds 6752 (.iface 110 (.pointer (some ⟨C, 0, none⟩)))) 190)) w.heap.size C := by
  have hz := z190
  have key : ∀ o, o ≠ 6752 → (Tryz.zeroCells190.setIfInBounds 6752 (.iface 110 (.pointer (some ⟨C, 0, none⟩))))[o]? = zcells[o]? := fun o ho => by
    rw [← hz, Array.getElem?_setIfInBounds_ne (fun e => ho e.symm), Array.getElem?_setIfInBounds_ne (fun e => ho e.symm)]
  have hsz : 6752 < Tryz.zeroCells190.size := by
    have h := zcells_at (o := 6752) (by omega)
    have := (Array.getElem?_eq_some_iff.1 h).1
    rw [← hz, Array.size_setIfInBounds] at this
    exact this
  refine ⟨fun o ho => ?_, ?_, fun o => ?_⟩
  · rw [cell_of_row _ _ _ _ 190 (0, 0) (heap_alloc_last w _), key o (by omega)]
    exact zcells_at (by omega)
  · rw [cell_of_row _ _ _ _ 190 (0, 0) (heap_alloc_last w _)]
    rw [Array.getElem?_setIfInBounds_self_of_lt hsz]
  · generalize Tryz.zeroCells190.setIfInBounds 6752 (.iface 110 (.pointer (some ⟨C, 0, none⟩))) = Z
    simp
set_option maxHeartbeats 4000000 in
theorem newWith_live {w : World} {C : Nat} (V : Vac w) (TB : TabAt w) (h2 : 2 < w.heap.size) :
    Calls Tryz.prog 57 #[.agg #[.int .u64 0, .iface 110 (.pointer (some ⟨C, 0, none⟩))]] w fun e w' => ∃ B mb, e = .returned (.pointer (some ⟨B, 0, none⟩)) ∧ Mach (blk0 w' B) B mb 0 0 net0 τ0 σE ∧ w'.cell? ⟨B, 6752, none⟩ = some (.iface 110 (.pointer (some ⟨C, 0, none⟩))) ∧ w.heap.size ≤ B ∧ w.heap.size ≤ mb ∧ Below w.heap.size w w' := by
  go_enter Tryz.func57, Tryz.ntmps57
  go_upto_region 1 with fail
  go_cut [3] (fun a3 wc => ∃ B, a3 = .pointer (some ⟨B, 0, none⟩) ∧ w.heap.size < B ∧ RawL wc B C ∧ wc.cell? ⟨w.heap.size, 0, none⟩ = some (.int .u64 0) ∧ Below w.heap.size w wc)
  case first =>
    go_wp2
    go_meet
    case rel =>
      have hr := raw_live (C := C) (w.alloc (.cells #[.int .u64 0, .iface 110 (.pointer (some ⟨C, 0, none⟩))] 118))
      have hs : (w.alloc (.cells #[.int .u64 0, .iface 110 (.pointer (some ⟨C, 0, none⟩))] 118)).heap.size = w.heap.size + 1 := by simp
      rw [hs] at hr
      have hb : Below w.heap.size w ((w.alloc (.cells #[.int .u64 0, .iface 110 (.pointer (some ⟨C, 0, none⟩))] 118)).alloc (.cells (Tryz.zeroCells190.setIfInBounds 6752 (.iface 110 (.pointer (some ⟨C, 0, none⟩)))) 190)) := (one_alloc _ _).trans ((one_alloc _ _).mono (by omega))
      have h0 : (w.alloc (.cells #[.int .u64 0, .iface 110 (.pointer (some ⟨C, 0, none⟩))] 118)).cell? ⟨w.heap.size, 0, none⟩ = some (.int .u64 0) := by simp
      have h1 := cell_later (one_alloc (w.alloc (.cells #[.int .u64 0, .iface 110 (.pointer (some ⟨C, 0, none⟩))] 118)) (.cells (Tryz.zeroCells190.setIfInBounds 6752 (.iface 110 (.pointer (some ⟨C, 0, none⟩)))) 190)) h0
      exact ⟨w.heap.size + 1, rfl, by omega, hr, h1, hb⟩
  case rest =>
    obtain ⟨B, rfl, hB, R, hcfg, hbc⟩ := hcut
    have hlt : B < wc.heap.size := World.block_lt_of_cell? _ _ (R.cell 0 (by omega))
    have c0 : wc.cell? ⟨B, 0, none⟩ = some (.int .u64 0) := R.cell 0 (by omega)
    have fz := R.frz
    have q1 : ¬ (w.heap.size = B) := by omega
    have q2 : ¬ (B = w.heap.size) := by omega
    have P : WheelPre (wc.setCell ⟨B, 0, none⟩ (.int .u64 0)) B wheel0 := by
      have M : Mut B 0 1 wc (wc.setCell ⟨B, 0, none⟩ (.int .u64 0)) := (Mut.refl B 0 1 wc).setCell (by omega) (by omega) _
      refine ⟨fun o ho ho' => ?_, ?_, fun o => by rw [M.frz]; exact R.frz o⟩
      · rw [M.cell _ (by omega), R.cell _ (by omega), wheel0_enc ho ho']
      · rw [M.cell _ (by omega), R.cell _ (by omega)]; rfl
    go_upto_region 3 with fail
    go_region_with (go_at_call 113; refine (wreset_t (st := 0) P.drew (by omega) (fun _ => rfl)).mono ?_; rintro e w2 ⟨rfl, T2, M2⟩)
    have T2' : ∃ s', TimersAt w2 B 0 s' (fun _ => none) ∧ WInv s' (fun _ => []) (List.range' 0 64) (fun _ => none) [] ∧ s'.now = 0 ∧ s'.mb = wc.heap.size ∧ s'.nid = 1 := by
      obtain ⟨s', a1, a2, a3, a4, a5⟩ := T2
      exact ⟨s', a1, a2, a3, a4.trans (by simp), a5⟩
    have M02 : Mut B 0 1939 wc w2 := ((Mut.refl B 0 1939 wc).setCell (o := 0) (by omega) (by omega) (.int .u64 0)).drew.trans (M2.mono (by omega) (by omega))
    have c02 : w2.cell? ⟨B, 0, none⟩ = some (.int .u64 0) := by
      rw [M2.cell 0 (by omega)]
      exact World.cell?_setCell_same _ _ _ c0
    have Vc : Vac wc := ⟨cell_later hbc V.v0, cell_later hbc V.v1, cell_later hbc V.v2, cell_later hbc V.v3, cell_later hbc V.v4⟩
    have Tc : TabAt wc := TB.below hbc
    have S2 : SchedAt w2 B sched0 := ⟨fun o ho => by rw [M02.cell _ (by omega), R.cell _ (by omega), sched0_enc ho], fun o => by rw [M02.frz]; exact R.frz o⟩
    have V2 : Vac w2 := Vc.mut M02 (by omega)
    clear c0 fz P T2 M2
    go_wp2_with fail
    refine (sreset_any3 S2 V2 (by omega)).mono ?_
    rintro e w3 ⟨rfl, S3, M3⟩
    go_wp2
    go_ret
    have k2 : w2.cell? ⟨B, 6752, none⟩ = some (.iface 110 (.pointer (some ⟨C, 0, none⟩))) := (M02.cell 6752 (by omega)).trans R.sink
    have k3 : w3.cell? ⟨B, 6752, none⟩ = some (.iface 110 (.pointer (some ⟨C, 0, none⟩))) := (M3.cell 6752 (by omega)).trans k2
    obtain ⟨s', t1, t2, t3, t4, t5⟩ := T2'
    have Mm := R.raw.mach (by omega) (by rw [blk_size]; exact hlt) (Vc.mut (blk_mut wc B) (by omega)) (Tc.mut (blk_mut wc B) (by omega)) (M02.blank (by omega) ⟨_, R.sink⟩) (by rw [blk_cell (by omega)]; exact c02) ⟨s', t1.mut (blk_mut w2 B) (by omega), t2, t3, by rw [blk_size]; exact t4, t5⟩ ⟨S3.1.mut (blk_mut w3 B) (by omega), S3.2⟩ (M3.blank (by omega) ⟨_, k2⟩)
    rw [blk_size] at Mm
    exact ⟨B, wc.heap.size, rfl, Mm, k3, by omega, hbc.size, Below.of_mut (Below.of_mut hbc M02 (by omega)) M3 (by omega)⟩
end Go.Proofs.Qxb6500877aGreatDoor
