import Derived.Test.Qxb6500877aGreatDoorPMo
set_option linter.unusedVariables false
set_option linter.unusedSimpArgs false
namespace Go.Proofs.Qxb6500877aGreatDoor
open Go.RowKit




set_option maxHeartbeats 8000000 in
theorem stepTask_m {w : World} {B mb t k : Nat} {ν : Net} {τ : TSt} {σ : Sg} {b base : Nat} (M : Mach w B mb t k ν τ σ) (o : OpS) (R : ResX w b ⟨0, -1, -1, 0⟩) (hbb : base ≤ b) (hB : B < base) (hm : mb < base) (hbase : base ≤ w.heap.size) :
    Calls Tryz.prog 73 #[.pointer (some ⟨B, 0, none⟩), opV o, .pointer (some ⟨b, 0, none⟩)] w fun e w' => e = .returned (.tuple #[]) ∧ Near base w w' B mb t k ν τ (σ.put (taskF σ.s o).s) ∧ ResX w' b (taskRS o (taskF σ.s o)) := by
  have hblt := R.lt
  have h2 := M.hB
  generalize hW : w.alloc (.cells #[.int .u8 o.kd, .int .i64 o.a, .int .i64 o.b, .int .i64 o.c, .int .u64 o.x, .int .u64 o.y] 32) = W at *
  have hb0 : Below w.heap.size w W := by rw [← hW]; exact one_alloc _ _
  have hsz : W.heap.size = w.heap.size + 1 := by rw [← hW]; simp
  have OW : OpAt W w.heap.size o := by rw [← hW]; exact op_new w o 32
  have NW : Near base w W B mb t k ν τ σ := (Near.refl M).below hb0 hbase
  have RW : ResX W b ⟨0, -1, -1, 0⟩ := R.blk (hb0.block b hblt)
  have MW := NW.m
  clear hb0
  obtain ⟨g0, g1, g2, g3, g4, g5⟩ := OW
  have hta := taskArg_any o.a W
  have hcb := coreArg_any o.b W
  have hbc := bandArg_any o.c W
  unfold opV
  by_cases hk11 : o.kd = 11
  · obtain ⟨⟨a1, c1, s1⟩, HF⟩ : ∃ r, Hid (taskF σ.s o = r) := ⟨_, hideIt rfl⟩
    have HAT : Hid (detachG σ.s (argF 16 o.a) = ⟨a1, c1, s1⟩) := hideIt (by rw [← HF.out]; simp [taskF, hk11])
    rw [HF.out]
    clear HF
    rw [hk11] at g0
    clear hk11
    go_enter Tryz.func73, Tryz.ntmps73
    go_wp2_with fail
    refine hta.mono ?_
    rintro e W ⟨rfl, rfl⟩
    go_wp2_with fail
    refine (detach_m MW _).mono ?_
    rintro e w1 hTD
    rw [HAT.out] at hTD
    obtain ⟨rfl, D1⟩ := hTD
    have NR := NW.done D1 hbase
    have R1 := RW.blk (D1.f.block b (by omega) (by omega) (by omega))
    clear D1 NW RW
    obtain ⟨v0, r0⟩ := R1.code
    obtain ⟨v1, r1⟩ := R1.core
    obtain ⟨v2, r2⟩ := R1.task
    have fz := R1.fz
    by_cases hc : c1 = 0
    · subst hc
      go_wp2
      go_end0
      exact ⟨rfl, ((NR.fresh ⟨b, 1, none⟩ hbb hB hm _).fresh ⟨b, 0, none⟩ hbb hB hm _).fresh ⟨b, 2, none⟩ hbb hB hm _, taskRS_ok (((R1.set1 _).set0 _).set2 _)⟩
    · have hcb : (c1 == 0) = false := by simpa using hc
      have HC := hideIt hc
      clear hc
      go_wp2
      go_end0
      exact ⟨rfl, (NR.fresh ⟨b, 1, none⟩ hbb hB hm _).fresh ⟨b, 0, none⟩ hbb hB hm _, taskRS_no HC ((R1.set1 _).set0 _)⟩
  · skip
    by_cases hk12 : o.kd = 12
    · obtain ⟨⟨a1, c1, s1⟩, HF⟩ : ∃ r, Hid (taskF σ.s o = r) := ⟨_, hideIt rfl⟩
      have HAT : Hid (readyF σ.s (argF 16 o.a) = ⟨a1, c1, s1⟩) := hideIt (by rw [← HF.out]; simp [taskF, hk12])
      rw [HF.out]
      clear HF
      rw [hk12] at g0
      clear hk12
      go_enter Tryz.func73, Tryz.ntmps73
      go_wp2_with fail
      refine hta.mono ?_
      rintro e W ⟨rfl, rfl⟩
      go_wp2_with fail
      refine (ready_m MW _).mono ?_
      rintro e w1 hTD
      rw [HAT.out] at hTD
      obtain ⟨rfl, D1⟩ := hTD
      have NR := NW.done D1 hbase
      have R1 := RW.blk (D1.f.block b (by omega) (by omega) (by omega))
      clear D1 NW RW
      obtain ⟨v0, r0⟩ := R1.code
      obtain ⟨v1, r1⟩ := R1.core
      obtain ⟨v2, r2⟩ := R1.task
      have fz := R1.fz
      by_cases hc : c1 = 0
      · subst hc
        go_wp2
        go_end0
        exact ⟨rfl, ((NR.fresh ⟨b, 1, none⟩ hbb hB hm _).fresh ⟨b, 0, none⟩ hbb hB hm _).fresh ⟨b, 2, none⟩ hbb hB hm _, taskRS_ok (((R1.set1 _).set0 _).set2 _)⟩
      · have hcb : (c1 == 0) = false := by simpa using hc
        have HC := hideIt hc
        clear hc
        go_wp2
        go_end0
        exact ⟨rfl, (NR.fresh ⟨b, 1, none⟩ hbb hB hm _).fresh ⟨b, 0, none⟩ hbb hB hm _, taskRS_no HC ((R1.set1 _).set0 _)⟩
    · skip
      by_cases hk13 : o.kd = 13
      · obtain ⟨⟨a1, c1, s1⟩, HF⟩ : ∃ r, Hid (taskF σ.s o = r) := ⟨_, hideIt rfl⟩
        have HAT : Hid (parkF σ.s (argF 16 o.a) = ⟨a1, c1, s1⟩) := hideIt (by rw [← HF.out]; simp [taskF, hk13])
        rw [HF.out]
        clear HF
        rw [hk13] at g0
        clear hk13
        go_enter Tryz.func73, Tryz.ntmps73
        go_wp2_with fail
        refine hta.mono ?_
        rintro e W ⟨rfl, rfl⟩
        go_wp2_with fail
        refine (park_m MW _).mono ?_
        rintro e w1 hTD
        rw [HAT.out] at hTD
        obtain ⟨rfl, D1⟩ := hTD
        have NR := NW.done D1 hbase
        have R1 := RW.blk (D1.f.block b (by omega) (by omega) (by omega))
        clear D1 NW RW
        obtain ⟨v0, r0⟩ := R1.code
        obtain ⟨v1, r1⟩ := R1.core
        obtain ⟨v2, r2⟩ := R1.task
        have fz := R1.fz
        by_cases hc : c1 = 0
        · subst hc
          go_wp2
          go_end0
          exact ⟨rfl, ((NR.fresh ⟨b, 1, none⟩ hbb hB hm _).fresh ⟨b, 0, none⟩ hbb hB hm _).fresh ⟨b, 2, none⟩ hbb hB hm _, taskRS_ok (((R1.set1 _).set0 _).set2 _)⟩
        · have hcb : (c1 == 0) = false := by simpa using hc
          have HC := hideIt hc
          clear hc
          go_wp2
          go_end0
          exact ⟨rfl, (NR.fresh ⟨b, 1, none⟩ hbb hB hm _).fresh ⟨b, 0, none⟩ hbb hB hm _, taskRS_no HC ((R1.set1 _).set0 _)⟩
      · skip
        by_cases hk14 : o.kd = 14
        · obtain ⟨⟨a1, c1, s1⟩, HF⟩ : ∃ r, Hid (taskF σ.s o = r) := ⟨_, hideIt rfl⟩
          have HAT : Hid (yieldF σ.s (argF 16 o.a) = ⟨a1, c1, s1⟩) := hideIt (by rw [← HF.out]; simp [taskF, hk14])
          rw [HF.out]
          clear HF
          rw [hk14] at g0
          clear hk14
          go_enter Tryz.func73, Tryz.ntmps73
          go_wp2_with fail
          refine hta.mono ?_
          rintro e W ⟨rfl, rfl⟩
          go_wp2_with fail
          refine (yield_m MW _).mono ?_
          rintro e w1 hTD
          rw [HAT.out] at hTD
          obtain ⟨rfl, D1⟩ := hTD
          have NR := NW.done D1 hbase
          have R1 := RW.blk (D1.f.block b (by omega) (by omega) (by omega))
          clear D1 NW RW
          obtain ⟨v0, r0⟩ := R1.code
          obtain ⟨v1, r1⟩ := R1.core
          obtain ⟨v2, r2⟩ := R1.task
          have fz := R1.fz
          by_cases hc : c1 = 0
          · subst hc
            go_wp2
            go_end0
            exact ⟨rfl, ((NR.fresh ⟨b, 1, none⟩ hbb hB hm _).fresh ⟨b, 0, none⟩ hbb hB hm _).fresh ⟨b, 2, none⟩ hbb hB hm _, taskRS_ok (((R1.set1 _).set0 _).set2 _)⟩
          · have hcb : (c1 == 0) = false := by simpa using hc
            have HC := hideIt hc
            clear hc
            go_wp2
            go_end0
            exact ⟨rfl, (NR.fresh ⟨b, 1, none⟩ hbb hB hm _).fresh ⟨b, 0, none⟩ hbb hB hm _, taskRS_no HC ((R1.set1 _).set0 _)⟩
        · skip
          by_cases hk15 : o.kd = 15
          · obtain ⟨⟨a1, c1, s1⟩, HF⟩ : ∃ r, Hid (taskF σ.s o = r) := ⟨_, hideIt rfl⟩
            have HAT : Hid (migrateG σ.s (argF 16 o.a) (argF 4 o.b) = ⟨a1, c1, s1⟩) := hideIt (by rw [← HF.out]; simp [taskF, hk15])
            rw [HF.out]
            clear HF
            rw [hk15] at g0
            clear hk15
            go_enter Tryz.func73, Tryz.ntmps73
            go_wp2_with fail
            refine hta.mono ?_
            rintro e W ⟨rfl, rfl⟩
            go_wp2_with fail
            refine hcb.mono ?_
            rintro e W ⟨rfl, rfl⟩
            go_wp2_with fail
            refine (migrate_m MW _ _).mono ?_
            rintro e w1 hTD
            rw [HAT.out] at hTD
            obtain ⟨rfl, D1⟩ := hTD
            have NR := NW.done D1 hbase
            have R1 := RW.blk (D1.f.block b (by omega) (by omega) (by omega))
            clear D1 NW RW
            obtain ⟨v0, r0⟩ := R1.code
            obtain ⟨v1, r1⟩ := R1.core
            obtain ⟨v2, r2⟩ := R1.task
            have fz := R1.fz
            by_cases hc : c1 = 0
            · subst hc
              go_wp2
              go_end0
              exact ⟨rfl, ((NR.fresh ⟨b, 1, none⟩ hbb hB hm _).fresh ⟨b, 0, none⟩ hbb hB hm _).fresh ⟨b, 2, none⟩ hbb hB hm _, taskRS_ok (((R1.set1 _).set0 _).set2 _)⟩
            · have hcb : (c1 == 0) = false := by simpa using hc
              have HC := hideIt hc
              clear hc
              go_wp2
              go_end0
              exact ⟨rfl, (NR.fresh ⟨b, 1, none⟩ hbb hB hm _).fresh ⟨b, 0, none⟩ hbb hB hm _, taskRS_no HC ((R1.set1 _).set0 _)⟩
          · skip
            by_cases hk16 : o.kd = 16
            · obtain ⟨⟨a1, c1, s1⟩, HF⟩ : ∃ r, Hid (taskF σ.s o = r) := ⟨_, hideIt rfl⟩
              have HAT : Hid (bandF σ.s (argF 16 o.a) (argF 4 o.c) = ⟨a1, c1, s1⟩) := hideIt (by rw [← HF.out]; simp [taskF, hk16])
              rw [HF.out]
              clear HF
              rw [hk16] at g0
              clear hk16
              go_enter Tryz.func73, Tryz.ntmps73
              go_wp2_with fail
              refine hta.mono ?_
              rintro e W ⟨rfl, rfl⟩
              go_wp2_with fail
              refine hbc.mono ?_
              rintro e W ⟨rfl, rfl⟩
              go_wp2_with fail
              refine (setBand_m MW _ _).mono ?_
              rintro e w1 hTD
              rw [HAT.out] at hTD
              obtain ⟨rfl, D1⟩ := hTD
              have NR := NW.done D1 hbase
              have R1 := RW.blk (D1.f.block b (by omega) (by omega) (by omega))
              clear D1 NW RW
              obtain ⟨v0, r0⟩ := R1.code
              obtain ⟨v1, r1⟩ := R1.core
              obtain ⟨v2, r2⟩ := R1.task
              have fz := R1.fz
              by_cases hc : c1 = 0
              · subst hc
                go_wp2
                go_end0
                exact ⟨rfl, ((NR.fresh ⟨b, 1, none⟩ hbb hB hm _).fresh ⟨b, 0, none⟩ hbb hB hm _).fresh ⟨b, 2, none⟩ hbb hB hm _, taskRS_ok (((R1.set1 _).set0 _).set2 _)⟩
              · have hcb : (c1 == 0) = false := by simpa using hc
                have HC := hideIt hc
                clear hc
                go_wp2
                go_end0
                exact ⟨rfl, (NR.fresh ⟨b, 1, none⟩ hbb hB hm _).fresh ⟨b, 0, none⟩ hbb hB hm _, taskRS_no HC ((R1.set1 _).set0 _)⟩
            · skip
              by_cases hk10 : o.kd = 10
              · by_cases hany : o.b = -1
                · obtain ⟨⟨a1, c1, s1⟩, HF⟩ : ∃ r, Hid (taskF σ.s o = r) := ⟨_, hideIt rfl⟩
                  have HAT : Hid (attAnyF σ.s (argF 16 o.a) (argF 4 o.c) = ⟨a1, c1, s1⟩) := hideIt (by rw [← HF.out]; simp [taskF, hk10, hany])
                  rw [HF.out]
                  clear HF
                  rw [hk10] at g0
                  clear hk10
                  have hanyb : (o.b == -1) = true := by simp [hany]
                  clear hany
                  go_enter Tryz.func73, Tryz.ntmps73
                  go_wp2_with fail
                  refine hta.mono ?_
                  rintro e W ⟨rfl, rfl⟩
                  go_wp2_with fail
                  refine hbc.mono ?_
                  rintro e W ⟨rfl, rfl⟩
                  go_wp2_with fail
                  refine (attachAnywhere_m MW _ _).mono ?_
                  rintro e w1 hTD
                  rw [HAT.out] at hTD
                  obtain ⟨rfl, D1⟩ := hTD
                  have NR := NW.done D1 hbase
                  have R1 := RW.blk (D1.f.block b (by omega) (by omega) (by omega))
                  clear D1 NW RW
                  obtain ⟨v0, r0⟩ := R1.code
                  obtain ⟨v1, r1⟩ := R1.core
                  obtain ⟨v2, r2⟩ := R1.task
                  have fz := R1.fz
                  by_cases hc : c1 = 0
                  · subst hc
                    go_wp2
                    go_end0
                    exact ⟨rfl, ((NR.fresh ⟨b, 1, none⟩ hbb hB hm _).fresh ⟨b, 0, none⟩ hbb hB hm _).fresh ⟨b, 2, none⟩ hbb hB hm _, taskRS_ok (((R1.set1 _).set0 _).set2 _)⟩
                  · have hcb : (c1 == 0) = false := by simpa using hc
                    have HC := hideIt hc
                    clear hc
                    go_wp2
                    go_end0
                    exact ⟨rfl, (NR.fresh ⟨b, 1, none⟩ hbb hB hm _).fresh ⟨b, 0, none⟩ hbb hB hm _, taskRS_no HC ((R1.set1 _).set0 _)⟩
                · exact stepTask_at M o R hk10 hany hbb hB hm hbase
              · skip
                have HF : taskF σ.s o = ⟨-1, 3, σ.s⟩ := by simp [taskF, hk10, hk11, hk12, hk13, hk14, hk15, hk16]
                rw [HF]
                clear HF
                have e10 : (((o.kd : Nat) : Int) == 10) = false := by simp; omega
                have e11 : (((o.kd : Nat) : Int) == 11) = false := by simp; omega
                have e12 : (((o.kd : Nat) : Int) == 12) = false := by simp; omega
                have e13 : (((o.kd : Nat) : Int) == 13) = false := by simp; omega
                have e14 : (((o.kd : Nat) : Int) == 14) = false := by simp; omega
                have e15 : (((o.kd : Nat) : Int) == 15) = false := by simp; omega
                have e16 : (((o.kd : Nat) : Int) == 16) = false := by simp; omega
                go_enter Tryz.func73, Tryz.ntmps73
                go_wp2_with fail
                refine hta.mono ?_
                rintro e W ⟨rfl, rfl⟩
                obtain ⟨v0, r0⟩ := RW.code
                have fz := RW.fz
                go_wp2_with fail
                refine (refuse_any MW.snk).mono ?_
                rintro e w1 ⟨rfl, hw1⟩
                rw [← hw1] at NW RW r0 fz
                clear hw1
                go_wp2
                first | go_end0 | refine bodyPost_ret (results_none rfl _ _ _) rfl ?_
                exact ⟨rfl, NW.fresh ⟨b, 0, none⟩ hbb hB hm _, taskRS_no (hideIt (by omega)) (RW.set0 _)⟩

end Go.Proofs.Qxb6500877aGreatDoor
