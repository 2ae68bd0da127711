import Derived.Test.Qxb6500877aGreatDoorUMm
set_option linter.unusedVariables false
set_option linter.unusedSimpArgs false
namespace Go.Proofs.Qxb6500877aGreatDoor
open Go.RowKit



set_option maxRecDepth 20000 in
set_option maxHeartbeats 8000000 in
theorem stepTask_at {w : World} {B mb t k : Nat} {ν : Net} {τ : TSt} {b base : Nat} (M : Mach w B mb t k ν τ) (o : OpS) (R : ResAt w b) (hk10 : o.kd = 10) (hany : o.b ≠ -1) (hbb : base ≤ b) (hB : B < base) (hm : mb < base) (hbase : base ≤ w.heap.size) :
    Calls Tryz.prog 73 #[.pointer (some ⟨B, 0, none⟩), opV o, .pointer (some ⟨b, 0, none⟩)] w fun e w' => e = .returned (.tuple #[]) ∧ Near base w w' B mb t k ν τ ∧ ResAt w' b := by
  have hblt := R.lt
  have h2 := M.hB
  generalize hW : w.alloc (.cells #[.int .u8 o.kd, .int .i64 o.a, .int .i64 o.b, .int .i64 o.c, .int .u64 o.x, .int .u64 o.y] 32) = W at *
  have hb0 : Below w.heap.size w W := by rw [← hW]; exact one_alloc _ _
  have hsz : W.heap.size = w.heap.size + 1 := by rw [← hW]; simp
  have OW : OpAt W w.heap.size o := by rw [← hW]; exact op_new w o 32
  have NW : Near base w W B mb t k ν τ := (Near.refl M).below hb0 hbase
  have RW : ResAt W b := R.blk (hb0.block b hblt)
  have MW := NW.m
  clear hb0
  obtain ⟨g0, g1, g2, g3, g4, g5⟩ := OW
  have hta := taskArg_any o.a W
  have hcb := coreArg_any o.b W
  have hbc := bandArg_any o.c W
  unfold opV
  rw [hk10] at g0
  clear hk10
  have hanyb : (o.b == -1) = false := by simpa using hany
  clear hany
  go_enter Tryz.func73, Tryz.ntmps73
  go_wp2_with fail
  refine hta.mono ?_
  rintro e W ⟨rfl, rfl⟩
  go_upto_region 7 with fail
  have MD := MW.drew
  go_region_with (first | (go_at_call 69; refine (coreArg_any _ _).mono ?_; rintro e wq ⟨rfl, rfl⟩) | (go_at_call 144; refine (bandArg_any _ _).mono ?_; rintro e wq ⟨rfl, rfl⟩) | (go_at_call 145; refine (attach_m (w := World.drew W) MD _ _ _).mono ?_; rintro e w1 ⟨⟨a1, c1, rfl⟩, D1⟩; have NR : Near base w w1 B mb t k ν τ := NW.drew.done D1 hbase; have R1 := RW.drew.blk (D1.f.block b (show b < W.heap.size by omega) (by omega) (by omega)); obtain ⟨v0, s0⟩ := R1.code; obtain ⟨v1, s1⟩ := R1.core; obtain ⟨v2, s2⟩ := R1.task; have fz := R1.fz) | fail)
  all_goals by_cases hc : c1 = 0
  all_goals first
    | (subst hc
       go_wp2
       go_end0
       exact ⟨rfl, ((NR.fresh ⟨b, 1, none⟩ hbb hB hm _).fresh ⟨b, 0, none⟩ hbb hB hm _).fresh ⟨b, 2, none⟩ hbb hB hm _, ((R1.set (j := 1) (by omega) ⟨_, rfl⟩).set (j := 0) (by omega) ⟨_, rfl⟩).set (j := 2) (by omega) ⟨_, rfl⟩⟩)
    | (have hcz : (c1 == 0) = false := by simpa using hc
       clear hc
       go_wp2
       go_end0
       exact ⟨rfl, (NR.fresh ⟨b, 1, none⟩ hbb hB hm _).fresh ⟨b, 0, none⟩ hbb hB hm _, (R1.set (j := 1) (by omega) ⟨_, rfl⟩).set (j := 0) (by omega) ⟨_, rfl⟩⟩)

end Go.Proofs.Qxb6500877aGreatDoor
