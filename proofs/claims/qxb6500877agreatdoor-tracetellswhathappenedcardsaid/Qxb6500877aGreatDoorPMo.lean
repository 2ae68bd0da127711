import Derived.Test.Qxb6500877aGreatDoorPMm
set_option linter.unusedVariables false
set_option linter.unusedSimpArgs false
namespace Go.Proofs.Qxb6500877aGreatDoor
open Go.RowKit




/-- What a step on a task answers, and the scheduler behind it. -/
def taskF (s : Sched) (o : OpS) : TRes :=
  if o.kd = 10 then (if o.b = -1 then attAnyF s (argF 16 o.a) (argF 4 o.c) else attAtF s (argF 16 o.a) (argF 4 o.b) (argF 4 o.c))
  else if o.kd = 11 then detachG s (argF 16 o.a)
  else if o.kd = 12 then readyF s (argF 16 o.a)
  else if o.kd = 13 then parkF s (argF 16 o.a)
  else if o.kd = 14 then yieldF s (argF 16 o.a)
  else if o.kd = 15 then migrateG s (argF 16 o.a) (argF 4 o.b)
  else if o.kd = 16 then bandF s (argF 16 o.a) (argF 4 o.c)
  else ⟨-1, 3, s⟩
def taskRS (o : OpS) (r : TRes) : RS := ⟨r.c, r.co, if r.c = 0 then argF 16 o.a else -1, 0⟩
theorem taskRS_ok {w : World} {b : Nat} {o : OpS} {a : Int} {s : Sched} (h : ResX w b ⟨0, a, argF 16 o.a, 0⟩) : ResX w b (taskRS o ⟨a, 0, s⟩) := by
  have e : taskRS o ⟨a, 0, s⟩ = ⟨0, a, argF 16 o.a, 0⟩ := by unfold taskRS; simp
  rw [e]; exact h
theorem taskRS_no {w : World} {b : Nat} {o : OpS} {a c : Int} {s : Sched} (hc : Hid (c ≠ 0)) (h : ResX w b ⟨c, a, -1, 0⟩) : ResX w b (taskRS o ⟨a, c, s⟩) := by
  have e : taskRS o ⟨a, c, s⟩ = ⟨c, a, -1, 0⟩ := by unfold taskRS; simp [hc.out]
  rw [e]; exact h
set_option maxRecDepth 20000 in
set_option maxHeartbeats 8000000 in
theorem stepTask_at {w : World} {B mb t k : Nat} {ν : Net} {τ : TSt} {σ : Sg} {b base : Nat} (M : Mach w B mb t k ν τ σ) (o : OpS) (R : ResX w b ⟨0, -1, -1, 0⟩) (hk10 : o.kd = 10) (hany : o.b ≠ -1) (hbb : base ≤ b) (hB : B < base) (hm : mb < base) (hbase : base ≤ w.heap.size) :
    Calls Tryz.prog 73 #[.pointer (some ⟨B, 0, none⟩), opV o, .pointer (some ⟨b, 0, none⟩)] w fun e w' => e = .returned (.tuple #[]) ∧ Near base w w' B mb t k ν τ (σ.put (taskF σ.s o).s) ∧ ResX w' b (taskRS o (taskF σ.s o)) := by
  have hblt := R.lt
  have h2 := M.hB
  generalize hW : w.alloc (.cells #[.int .u8 o.kd, .int .i64 o.a, .int .i64 o.b, .int .i64 o.c, .int .u64 o.x, .int .u64 o.y] 32) = W at *
  have hb0 : Below w.heap.size w W := by rw [← hW]; exact one_alloc _ _
  have hsz : W.heap.size = w.heap.size + 1 := by rw [← hW]; simp
  have OW : OpAt W w.heap.size o := by rw [← hW]; exact op_new w o 32
  have NW : Near base w W B mb t k ν τ σ := (Near.refl M).below hb0 hbase
  have RW : ResX W b ⟨0, -1, -1, 0⟩ := R.blk (hb0.block b hblt)
  have MW := NW.m
  clear hb0
  obtain ⟨g0, g1, g2, g3, g4, g5⟩ := OW
  have hta := taskArg_any o.a W
  have hcb := coreArg_any o.b W
  have hbc := bandArg_any o.c W
  obtain ⟨⟨a1, c1, s1⟩, HF⟩ : ∃ r, Hid (taskF σ.s o = r) := ⟨_, hideIt rfl⟩
  have HAT : Hid (attAtF σ.s (argF 16 o.a) (argF 4 o.b) (argF 4 o.c) = ⟨a1, c1, s1⟩) := hideIt (by rw [← HF.out, taskF, if_pos hk10, if_neg hany])
  rw [HF.out]
  clear HF
  unfold opV
  rw [hk10] at g0
  clear hk10
  have hanyb : (o.b == -1) = false := by simpa using hany
  clear hany
  go_enter Tryz.func73, Tryz.ntmps73
  go_wp2_with fail
  refine hta.mono ?_
  rintro e W ⟨rfl, rfl⟩
  go_upto_region 7 with fail
  have MD := MW.drew
  go_region_with (first | (go_at_call 69; refine (coreArg_any _ _).mono ?_; rintro e wq ⟨rfl, rfl⟩) | (go_at_call 144; refine (bandArg_any _ _).mono ?_; rintro e wq ⟨rfl, rfl⟩) | (go_at_call 145; refine (attach_m (w := World.drew W) MD _ _ _).mono ?_; rintro e w1 hTD; rw [HAT.out] at hTD; obtain ⟨rfl, D1⟩ := hTD; have NR := NW.drew.done D1 hbase; have R1 := RW.drew.blk (D1.f.block b (show b < W.heap.size by omega) (by omega) (by omega)); obtain ⟨v0, s0⟩ := R1.code; obtain ⟨v1, s1⟩ := R1.core; obtain ⟨v2, s2⟩ := R1.task; have fz := R1.fz) | fail)
  all_goals by_cases hc : c1 = 0
  all_goals first
    | (subst hc
       go_wp2
       go_end0
       exact ⟨rfl, ((NR.fresh ⟨b, 1, none⟩ hbb hB hm _).fresh ⟨b, 0, none⟩ hbb hB hm _).fresh ⟨b, 2, none⟩ hbb hB hm _, taskRS_ok (((R1.set1 _).set0 _).set2 _)⟩)
    | (have hcz : (c1 == 0) = false := by simpa using hc
       have HC := hideIt hc
       clear hc
       go_wp2
       go_end0
       exact ⟨rfl, (NR.fresh ⟨b, 1, none⟩ hbb hB hm _).fresh ⟨b, 0, none⟩ hbb hB hm _, taskRS_no HC ((R1.set1 _).set0 _)⟩)

end Go.Proofs.Qxb6500877aGreatDoor
