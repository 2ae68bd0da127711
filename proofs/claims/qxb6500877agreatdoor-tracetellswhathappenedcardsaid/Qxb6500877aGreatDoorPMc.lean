import Derived.Test.Qxb6500877aGreatDoorPMb
import Derived.Test.Qxb6500877aGreatDoorPk
set_option linter.unusedVariables false
set_option linter.unusedSimpArgs false
namespace Go.Proofs.Qxb6500877aGreatDoor
open Go.RowKit



/-- Two numbers are returned. -/
def Two (e : Ending) : Prop := ∃ a b : Int, e = .returned (.tuple #[.int .i64 a, .int .i64 b])
theorem two_mk (a b : Int) : Two (.returned (.tuple #[.int .i64 a, .int .i64 b])) := ⟨a, b, rfl⟩
/-- What a step on a task answers (the core and the code), and the scheduler behind it. -/
structure TRes where
  co : Int
  c : Int
  s : Sched
def presF (s : Sched) (u : Int) (K : Nat → TRes) : TRes := if 0 ≤ u ∧ u < 16 then (if (s.tk u.toNat).st = 0 then ⟨-1, 12, s⟩ else K u.toNat) else ⟨-1, 5, s⟩
def chF (x : Nat) (s : Sched) : TRes := ⟨(s.tk x).home, 0, s⟩
def readyF (s : Sched) (u : Int) : TRes := presF s u fun x => if (s.tk x).st = 1 then chF x (enq s x (rowH s x) (rowB s x)) else ⟨-1, 13, s⟩
def parkF (s : Sched) (u : Int) : TRes := presF s u fun x => if (s.tk x).st = 1 then ⟨-1, 13, s⟩ else chF x ((standDown s x (rowH s x) (rowB s x)).pSt x 1)
def yieldF (s : Sched) (u : Int) : TRes := presF s u fun x => if (s.tk x).st = 3 then chF x (enq (standDown s x (rowH s x) (rowB s x)) x (rowH s x) (rowB s x)) else ⟨-1, 13, s⟩
def detachG (s : Sched) (u : Int) : TRes := presF s u fun x => ⟨(s.tk x).home, 0, vacate ((standDown s x (rowH s x) (rowB s x)).setLd (rowH s x) ((standDown s x (rowH s x) (rowB s x)).ld (rowH s x) - 1)) x⟩
def migrateG (s : Sched) (u g : Int) : TRes := presF s u fun x => if 0 ≤ g ∧ g < 4 then (if (s.tk x).home = g then ⟨g, 0, s⟩ else chF x (migF s x g.toNat)) else ⟨-1, 4, s⟩
def bandF (s : Sched) (u g : Int) : TRes := presF s u fun x => if 0 ≤ g ∧ g < 4 then (if (s.tk x).band = g then ⟨(s.tk x).home, 0, s⟩ else chF x (setBandF s x (rowH s x) (rowB s x) g.toNat)) else ⟨-1, 6, s⟩
theorem presF_bad {s : Sched} {u : Int} {K : Nat → TRes} (hu : ¬ (0 ≤ u ∧ u < 16)) : presF s u K = ⟨-1, 5, s⟩ := if_neg hu
theorem presF_absent {s : Sched} {x : Nat} {K : Nat → TRes} (hx : x < 16) (h : (s.tk x).st = 0) : presF s (x : Int) K = ⟨-1, 12, s⟩ := by
  rw [presF, if_pos (by omega), Int.toNat_natCast, if_pos h]
theorem presF_there {s : Sched} {x : Nat} {K : Nat → TRes} (hx : x < 16) (h : (s.tk x).st ≠ 0) : presF s (x : Int) K = K x := by
  rw [presF, if_pos (by omega), Int.toNat_natCast, if_neg h]
/-- A method on a task has answered. -/
def TD (r : TRes) (w w' : World) (B mb t k : Nat) (ν : Net) (τ : TSt) (σ : Sg) (e : Ending) : Prop := e = .returned (.tuple #[.int .i64 r.co, .int .i64 r.c]) ∧ Done w w' B mb t k ν τ (σ.put r.s)
set_option maxHeartbeats 1000000 in
theorem present_bad {w : World} {B : Nat} {u : Int} (hu : ¬ (0 ≤ u ∧ u < 16)) : Calls Tryz.prog 187 #[.pointer (some ⟨B, 0, none⟩), .int .i64 u] w fun e w' => e = .returned (.int .i64 5) ∧ w' = w := by
  have hv := validTask_any u w
  rw [decide_eq_false hu] at hv
  go_enter Tryz.func187, Tryz.ntmps187
  go_wp2_with fail
  refine hv.mono ?_
  rintro e w1 ⟨rfl, rfl⟩
  go_wp2
  go_ret
  exact ⟨rfl, rfl⟩
set_option maxHeartbeats 1000000 in
theorem present_absent {w : World} {B x : Nat} {s : Sched} (S : SchedAt w B s) (hx : x < 16) (h : (s.tk x).st = 0) : Calls Tryz.prog 187 #[.pointer (some ⟨B, 0, none⟩), .int .i64 (x : Int)] w fun e w' => e = .returned (.int .i64 12) ∧ w' = w := by
  have hv := validTask_any x w
  have hd : (0 : Int) ≤ x ∧ (x : Int) < 16 := by omega
  rw [decide_eq_true hd] at hv
  obtain ⟨t0, _⟩ := S.task hx
  rw [h] at t0
  obtain ⟨i0, i1⟩ := hd
  go_enter Tryz.func187, Tryz.ntmps187
  go_wp2_with fail
  refine hv.mono ?_
  rintro e w1 ⟨rfl, rfl⟩
  go_wp2
  go_ret
  exact ⟨rfl, rfl⟩
set_option maxHeartbeats 1000000 in
theorem present_there {w : World} {B x : Nat} {s : Sched} (S : SchedAt w B s) (hx : x < 16) (h : (s.tk x).st ≠ 0) : Calls Tryz.prog 187 #[.pointer (some ⟨B, 0, none⟩), .int .i64 (x : Int)] w fun e w' => e = .returned (.int .i64 0) ∧ w' = w := by
  have hv := validTask_any x w
  have hd : (0 : Int) ≤ x ∧ (x : Int) < 16 := by omega
  rw [decide_eq_true hd] at hv
  obtain ⟨t0, _⟩ := S.task hx
  have hb : ((s.tk x).st == 0) = false := by simpa using h
  obtain ⟨i0, i1⟩ := hd
  go_enter Tryz.func187, Tryz.ntmps187
  go_wp2_with fail
  refine hv.mono ?_
  rintro e w1 ⟨rfl, rfl⟩
  go_wp2
  go_ret
  exact ⟨rfl, rfl⟩
set_option maxHeartbeats 1000000 in
theorem changed_m {w : World} {B mb t k : Nat} {ν : Net} {τ : TSt} {σ : Sg} {x : Nat} (M : Mach w B mb t k ν τ σ) (hx : x < 16) : Calls Tryz.prog 189 #[.pointer (some ⟨B, 0, none⟩), .int .i64 (x : Int)] w fun e w' => e = .returned (.tuple #[.int .i64 (σ.s.tk x).home, .int .i64 0]) ∧ w' = w := by
  obtain ⟨S, K⟩ := M.sch
  obtain ⟨_, t1, _⟩ := S.task hx
  have i0 : (0 : Int) ≤ x := by omega
  have i1 : (x : Int) < 16 := by omega
  go_enter Tryz.func189, Tryz.ntmps189
  go_wp2_with fail
  refine (noteTask_any M.snk).mono ?_
  rintro e w1 ⟨rfl, rfl⟩
  go_wp2
  go_ret2
  exact ⟨rfl, rfl⟩

set_option maxHeartbeats 2000000 in
theorem ready_m {w : World} {B mb t k : Nat} {ν : Net} {τ : TSt} {σ : Sg} (M : Mach w B mb t k ν τ σ) (u : Int) : Calls Tryz.prog 147 #[.pointer (some ⟨B, 0, none⟩), .int .i64 u] w fun e w' => TD (readyF σ.s u) w w' B mb t k ν τ σ e := by
  obtain ⟨S, K⟩ := M.sch
  by_cases hu : 0 ≤ u ∧ u < 16
  · obtain ⟨x, rfl, hx⟩ : ∃ x : Nat, u = x ∧ x < 16 := ⟨u.toNat, by omega, by omega⟩
    have i0 : (0 : Int) ≤ x := by omega
    have i1 : (x : Int) < 16 := by omega
    clear hu
    by_cases h0 : (σ.s.tk x).st = 0
    · rw [readyF, presF_absent hx h0]
      go_enter Tryz.func147, Tryz.ntmps147
      go_wp2_with fail
      refine (present_absent S hx h0).mono ?_
      rintro e w ⟨rfl, rfl⟩
      go_wp2_with fail
      refine (refuse_any M.snk).mono ?_
      rintro e w1 ⟨rfl, rfl⟩
      go_wp2
      go_ret2
      exact ⟨rfl, Done.refl M⟩
    · obtain ⟨t0, t1, t2, _, _⟩ := S.task hx
      by_cases hs : (σ.s.tk x).st = 1
      · have hb : ((σ.s.tk x).st != 1) = false := by simp [hs]
        have HS := hideIt hs
        clear hs
        rw [readyF, presF_there hx h0, if_pos HS.out]
        go_enter Tryz.func147, Tryz.ntmps147
        go_wp2_with fail
        refine (present_there S hx h0).mono ?_
        rintro e w ⟨rfl, rfl⟩
        go_wp2_with fail
        refine (ready_s S K hx HS.out).mono ?_
        rintro e w1 ⟨rfl, S1, M1⟩
        have D1 := (Done.refl M).mut M1 (by omega) (M.sched M1 S1)
        go_wp2_with fail
        refine (changed_m D1.m hx).mono ?_
        rintro e w1 ⟨rfl, rfl⟩
        go_wp2
        go_ret2
        exact ⟨rfl, D1⟩
      · have hb : ((σ.s.tk x).st != 1) = true := by simpa using hs
        have HS := hideIt hs
        clear hs
        rw [readyF, presF_there hx h0, if_neg HS.out]
        go_enter Tryz.func147, Tryz.ntmps147
        go_wp2_with fail
        refine (present_there S hx h0).mono ?_
        rintro e w ⟨rfl, rfl⟩
        go_wp2_with fail
        refine (refuse_any M.snk).mono ?_
        rintro e w1 ⟨rfl, rfl⟩
        go_wp2
        go_ret2
        exact ⟨rfl, Done.refl M⟩
  · rw [readyF, presF_bad hu]
    go_enter Tryz.func147, Tryz.ntmps147
    go_wp2_with fail
    refine (present_bad hu).mono ?_
    rintro e w ⟨rfl, rfl⟩
    go_wp2_with fail
    refine (refuse_any M.snk).mono ?_
    rintro e w1 ⟨rfl, rfl⟩
    go_wp2
    go_ret2
    exact ⟨rfl, Done.refl M⟩

set_option maxHeartbeats 2000000 in
theorem park_m {w : World} {B mb t k : Nat} {ν : Net} {τ : TSt} {σ : Sg} (M : Mach w B mb t k ν τ σ) (u : Int) : Calls Tryz.prog 148 #[.pointer (some ⟨B, 0, none⟩), .int .i64 u] w fun e w' => TD (parkF σ.s u) w w' B mb t k ν τ σ e := by
  obtain ⟨S, K⟩ := M.sch
  by_cases hu : 0 ≤ u ∧ u < 16
  · obtain ⟨x, rfl, hx⟩ : ∃ x : Nat, u = x ∧ x < 16 := ⟨u.toNat, by omega, by omega⟩
    have i0 : (0 : Int) ≤ x := by omega
    have i1 : (x : Int) < 16 := by omega
    clear hu
    by_cases h0 : (σ.s.tk x).st = 0
    · rw [parkF, presF_absent hx h0]
      go_enter Tryz.func148, Tryz.ntmps148
      go_wp2_with fail
      refine (present_absent S hx h0).mono ?_
      rintro e w ⟨rfl, rfl⟩
      go_wp2_with fail
      refine (refuse_any M.snk).mono ?_
      rintro e w1 ⟨rfl, rfl⟩
      go_wp2
      go_ret2
      exact ⟨rfl, Done.refl M⟩
    · obtain ⟨t0, t1, t2, _, _⟩ := S.task hx
      by_cases hs : (σ.s.tk x).st = 1
      · have hb : ((σ.s.tk x).st == 1) = true := by simp [hs]
        have HS := hideIt hs
        clear hs
        rw [parkF, presF_there hx h0, if_pos HS.out]
        go_enter Tryz.func148, Tryz.ntmps148
        go_wp2_with fail
        refine (present_there S hx h0).mono ?_
        rintro e w ⟨rfl, rfl⟩
        go_wp2_with fail
        refine (refuse_any M.snk).mono ?_
        rintro e w1 ⟨rfl, rfl⟩
        go_wp2
        go_ret2
        exact ⟨rfl, Done.refl M⟩
      · have hb : ((σ.s.tk x).st == 1) = false := by simpa using hs
        have HS := hideIt hs
        clear hs
        rw [parkF, presF_there hx h0, if_neg HS.out]
        go_enter Tryz.func148, Tryz.ntmps148
        go_wp2_with fail
        refine (present_there S hx h0).mono ?_
        rintro e w ⟨rfl, rfl⟩
        go_wp2_with fail
        refine (park_s S K hx h0).mono ?_
        rintro e w1 ⟨rfl, S1, M1⟩
        have D1 := (Done.refl M).mut M1 (by omega) (M.sched M1 S1)
        go_wp2_with fail
        refine (changed_m D1.m hx).mono ?_
        rintro e w1 ⟨rfl, rfl⟩
        go_wp2
        go_ret2
        exact ⟨rfl, D1⟩
  · rw [parkF, presF_bad hu]
    go_enter Tryz.func148, Tryz.ntmps148
    go_wp2_with fail
    refine (present_bad hu).mono ?_
    rintro e w ⟨rfl, rfl⟩
    go_wp2_with fail
    refine (refuse_any M.snk).mono ?_
    rintro e w1 ⟨rfl, rfl⟩
    go_wp2
    go_ret2
    exact ⟨rfl, Done.refl M⟩

set_option maxHeartbeats 2000000 in
theorem yield_m {w : World} {B mb t k : Nat} {ν : Net} {τ : TSt} {σ : Sg} (M : Mach w B mb t k ν τ σ) (u : Int) : Calls Tryz.prog 149 #[.pointer (some ⟨B, 0, none⟩), .int .i64 u] w fun e w' => TD (yieldF σ.s u) w w' B mb t k ν τ σ e := by
  obtain ⟨S, K⟩ := M.sch
  by_cases hu : 0 ≤ u ∧ u < 16
  · obtain ⟨x, rfl, hx⟩ : ∃ x : Nat, u = x ∧ x < 16 := ⟨u.toNat, by omega, by omega⟩
    have i0 : (0 : Int) ≤ x := by omega
    have i1 : (x : Int) < 16 := by omega
    clear hu
    by_cases h0 : (σ.s.tk x).st = 0
    · rw [yieldF, presF_absent hx h0]
      go_enter Tryz.func149, Tryz.ntmps149
      go_wp2_with fail
      refine (present_absent S hx h0).mono ?_
      rintro e w ⟨rfl, rfl⟩
      go_wp2_with fail
      refine (refuse_any M.snk).mono ?_
      rintro e w1 ⟨rfl, rfl⟩
      go_wp2
      go_ret2
      exact ⟨rfl, Done.refl M⟩
    · obtain ⟨t0, t1, t2, _, _⟩ := S.task hx
      by_cases hs : (σ.s.tk x).st = 3
      · have hb : ((σ.s.tk x).st != 3) = false := by simp [hs]
        have HS := hideIt hs
        clear hs
        rw [yieldF, presF_there hx h0, if_pos HS.out]
        go_enter Tryz.func149, Tryz.ntmps149
        go_wp2_with fail
        refine (present_there S hx h0).mono ?_
        rintro e w ⟨rfl, rfl⟩
        go_wp2_with fail
        refine (yield_s S K hx h0).mono ?_
        rintro e w1 ⟨rfl, S1, M1⟩
        have D1 := (Done.refl M).mut M1 (by omega) (M.sched M1 S1)
        go_wp2_with fail
        refine (changed_m D1.m hx).mono ?_
        rintro e w1 ⟨rfl, rfl⟩
        go_wp2
        go_ret2
        exact ⟨rfl, D1⟩
      · have hb : ((σ.s.tk x).st != 3) = true := by simpa using hs
        have HS := hideIt hs
        clear hs
        rw [yieldF, presF_there hx h0, if_neg HS.out]
        go_enter Tryz.func149, Tryz.ntmps149
        go_wp2_with fail
        refine (present_there S hx h0).mono ?_
        rintro e w ⟨rfl, rfl⟩
        go_wp2_with fail
        refine (refuse_any M.snk).mono ?_
        rintro e w1 ⟨rfl, rfl⟩
        go_wp2
        go_ret2
        exact ⟨rfl, Done.refl M⟩
  · rw [yieldF, presF_bad hu]
    go_enter Tryz.func149, Tryz.ntmps149
    go_wp2_with fail
    refine (present_bad hu).mono ?_
    rintro e w ⟨rfl, rfl⟩
    go_wp2_with fail
    refine (refuse_any M.snk).mono ?_
    rintro e w1 ⟨rfl, rfl⟩
    go_wp2
    go_ret2
    exact ⟨rfl, Done.refl M⟩

set_option maxHeartbeats 2000000 in
theorem detach_m {w : World} {B mb t k : Nat} {ν : Net} {τ : TSt} {σ : Sg} (M : Mach w B mb t k ν τ σ) (u : Int) : Calls Tryz.prog 146 #[.pointer (some ⟨B, 0, none⟩), .int .i64 u] w fun e w' => TD (detachG σ.s u) w w' B mb t k ν τ σ e := by
  obtain ⟨S, K⟩ := M.sch
  by_cases hu : 0 ≤ u ∧ u < 16
  · obtain ⟨x, rfl, hx⟩ : ∃ x : Nat, u = x ∧ x < 16 := ⟨u.toNat, by omega, by omega⟩
    have i0 : (0 : Int) ≤ x := by omega
    have i1 : (x : Int) < 16 := by omega
    clear hu
    by_cases h0 : (σ.s.tk x).st = 0
    · rw [detachG, presF_absent hx h0]
      go_enter Tryz.func146, Tryz.ntmps146
      go_wp2_with fail
      refine (present_absent S hx h0).mono ?_
      rintro e w ⟨rfl, rfl⟩
      go_wp2_with fail
      refine (refuse_any M.snk).mono ?_
      rintro e w1 ⟨rfl, rfl⟩
      go_wp2
      go_ret2
      exact ⟨rfl, Done.refl M⟩
    · obtain ⟨t0, t1, t2, _, _⟩ := S.task hx
      rw [detachG, presF_there hx h0]
      go_enter Tryz.func146, Tryz.ntmps146
      go_wp2_with fail
      refine (present_there S hx h0).mono ?_
      rintro e w ⟨rfl, rfl⟩
      go_wp2_with fail
      refine (detach_s S K hx h0 M.vac (by have := M.hB; omega)).mono ?_
      rintro e w1 ⟨rfl, S1, M1⟩
      have D1 := (Done.refl M).mut M1 (by omega) (M.sched M1 S1)
      go_wp2_with fail
      refine (noteTask_any D1.m.snk).mono ?_
      rintro e w1 ⟨rfl, rfl⟩
      go_wp2
      go_ret2
      exact ⟨rfl, D1⟩
  · rw [detachG, presF_bad hu]
    go_enter Tryz.func146, Tryz.ntmps146
    go_wp2_with fail
    refine (present_bad hu).mono ?_
    rintro e w ⟨rfl, rfl⟩
    go_wp2_with fail
    refine (refuse_any M.snk).mono ?_
    rintro e w1 ⟨rfl, rfl⟩
    go_wp2
    go_ret2
    exact ⟨rfl, Done.refl M⟩

set_option maxHeartbeats 2000000 in
theorem migrate_m {w : World} {B mb t k : Nat} {ν : Net} {τ : TSt} {σ : Sg} (M : Mach w B mb t k ν τ σ) (u g : Int) : Calls Tryz.prog 150 #[.pointer (some ⟨B, 0, none⟩), .int .i64 u, .int .i64 g] w fun e w' => TD (migrateG σ.s u g) w w' B mb t k ν τ σ e := by
  obtain ⟨S, K⟩ := M.sch
  by_cases hu : 0 ≤ u ∧ u < 16
  · obtain ⟨x, rfl, hx⟩ : ∃ x : Nat, u = x ∧ x < 16 := ⟨u.toNat, by omega, by omega⟩
    have i0 : (0 : Int) ≤ x := by omega
    have i1 : (x : Int) < 16 := by omega
    clear hu
    by_cases h0 : (σ.s.tk x).st = 0
    · rw [migrateG, presF_absent hx h0]
      go_enter Tryz.func150, Tryz.ntmps150
      go_wp2_with fail
      refine (present_absent S hx h0).mono ?_
      rintro e w ⟨rfl, rfl⟩
      go_wp2_with fail
      refine (refuse_any M.snk).mono ?_
      rintro e w1 ⟨rfl, rfl⟩
      go_wp2
      go_ret2
      exact ⟨rfl, Done.refl M⟩
    · obtain ⟨t0, t1, t2, _, _⟩ := S.task hx
      by_cases hg : 0 ≤ g ∧ g < 4
      · obtain ⟨y, rfl, hy⟩ : ∃ y : Nat, g = y ∧ y < 4 := ⟨g.toNat, by omega, by omega⟩
        have hv := validCore_any (y : Int) w
        rw [decide_eq_true hg] at hv
        clear hg
        by_cases hs : (σ.s.tk x).home = y
        · have hb : ((σ.s.tk x).home == (y : Int)) = true := by simp [hs]
          have HS := hideIt hs
          clear hs
          rw [migrateG, presF_there hx h0, if_pos (by omega), if_pos HS.out]
          go_enter Tryz.func150, Tryz.ntmps150
          go_wp2_with fail
          refine (present_there S hx h0).mono ?_
          rintro e w ⟨rfl, rfl⟩
          go_wp2_with fail
          refine hv.mono ?_
          rintro e w ⟨rfl, rfl⟩
          go_wp2
          go_ret2
          exact ⟨rfl, Done.refl M⟩
        · have hb : ((σ.s.tk x).home == (y : Int)) = false := by simpa using hs
          have HS := hideIt hs
          clear hs
          rw [migrateG, presF_there hx h0, if_pos (by omega), if_neg HS.out, Int.toNat_natCast]
          go_enter Tryz.func150, Tryz.ntmps150
          go_wp2_with fail
          refine (present_there S hx h0).mono ?_
          rintro e w ⟨rfl, rfl⟩
          go_wp2_with fail
          refine hv.mono ?_
          rintro e w ⟨rfl, rfl⟩
          go_wp2_with fail
          refine (migrate_s S K hx h0 hy HS.out).mono ?_
          rintro e w1 ⟨rfl, S1, M1⟩
          have D1 := (Done.refl M).mut M1 (by omega) (M.sched M1 S1)
          go_wp2_with fail
          refine (changed_m D1.m hx).mono ?_
          rintro e w1 ⟨rfl, rfl⟩
          go_wp2
          go_ret2
          exact ⟨rfl, D1⟩
      · have hv := validCore_any g w
        rw [decide_eq_false hg] at hv
        rw [migrateG, presF_there hx h0, if_neg hg]
        go_enter Tryz.func150, Tryz.ntmps150
        go_wp2_with fail
        refine (present_there S hx h0).mono ?_
        rintro e w ⟨rfl, rfl⟩
        go_wp2_with fail
        refine hv.mono ?_
        rintro e w ⟨rfl, rfl⟩
        go_wp2_with fail
        refine (refuse_any M.snk).mono ?_
        rintro e w1 ⟨rfl, rfl⟩
        go_wp2
        go_ret2
        exact ⟨rfl, Done.refl M⟩
  · rw [migrateG, presF_bad hu]
    go_enter Tryz.func150, Tryz.ntmps150
    go_wp2_with fail
    refine (present_bad hu).mono ?_
    rintro e w ⟨rfl, rfl⟩
    go_wp2_with fail
    refine (refuse_any M.snk).mono ?_
    rintro e w1 ⟨rfl, rfl⟩
    go_wp2
    go_ret2
    exact ⟨rfl, Done.refl M⟩

set_option maxHeartbeats 2000000 in
theorem setBand_m {w : World} {B mb t k : Nat} {ν : Net} {τ : TSt} {σ : Sg} (M : Mach w B mb t k ν τ σ) (u g : Int) : Calls Tryz.prog 151 #[.pointer (some ⟨B, 0, none⟩), .int .i64 u, .int .i64 g] w fun e w' => TD (bandF σ.s u g) w w' B mb t k ν τ σ e := by
  obtain ⟨S, K⟩ := M.sch
  by_cases hu : 0 ≤ u ∧ u < 16
  · obtain ⟨x, rfl, hx⟩ : ∃ x : Nat, u = x ∧ x < 16 := ⟨u.toNat, by omega, by omega⟩
    have i0 : (0 : Int) ≤ x := by omega
    have i1 : (x : Int) < 16 := by omega
    clear hu
    by_cases h0 : (σ.s.tk x).st = 0
    · rw [bandF, presF_absent hx h0]
      go_enter Tryz.func151, Tryz.ntmps151
      go_wp2_with fail
      refine (present_absent S hx h0).mono ?_
      rintro e w ⟨rfl, rfl⟩
      go_wp2_with fail
      refine (refuse_any M.snk).mono ?_
      rintro e w1 ⟨rfl, rfl⟩
      go_wp2
      go_ret2
      exact ⟨rfl, Done.refl M⟩
    · obtain ⟨t0, t1, t2, _, _⟩ := S.task hx
      obtain ⟨hh, bb, rr⟩ := K.row hx h0
      have hwb : IntKind.i64.wrap (σ.s.tk x).band = (σ.s.tk x).band := wrap_i64 (by have h1 := rr.eb; have h2 := rr.hb; omega)
      clear rr
      by_cases hg : 0 ≤ g ∧ g < 4
      · obtain ⟨y, rfl, hy⟩ : ∃ y : Nat, g = y ∧ y < 4 := ⟨g.toNat, by omega, by omega⟩
        have hv := validBand_any (y : Int) w
        rw [decide_eq_true hg] at hv
        clear hg
        by_cases hs : (σ.s.tk x).band = y
        · have hb : ((σ.s.tk x).band == (y : Int)) = true := by simp [hs]
          have HS := hideIt hs
          clear hs
          rw [bandF, presF_there hx h0, if_pos (by omega), if_pos HS.out]
          go_enter Tryz.func151, Tryz.ntmps151
          go_wp2_with fail
          refine (present_there S hx h0).mono ?_
          rintro e w ⟨rfl, rfl⟩
          go_wp2_with fail
          refine hv.mono ?_
          rintro e w ⟨rfl, rfl⟩
          go_wp2
          go_ret2
          exact ⟨rfl, Done.refl M⟩
        · have hb : ((σ.s.tk x).band == (y : Int)) = false := by simpa using hs
          have HS := hideIt hs
          clear hs
          rw [bandF, presF_there hx h0, if_pos (by omega), if_neg HS.out, Int.toNat_natCast]
          go_enter Tryz.func151, Tryz.ntmps151
          go_wp2_with fail
          refine (present_there S hx h0).mono ?_
          rintro e w ⟨rfl, rfl⟩
          go_wp2_with fail
          refine hv.mono ?_
          rintro e w ⟨rfl, rfl⟩
          go_wp2_with fail
          refine (setBand_s S K hx h0 hy).mono ?_
          rintro e w1 ⟨rfl, S1, M1⟩
          have D1 := (Done.refl M).mut M1 (by omega) (M.sched M1 S1)
          go_wp2_with fail
          refine (changed_m D1.m hx).mono ?_
          rintro e w1 ⟨rfl, rfl⟩
          go_wp2
          go_ret2
          exact ⟨rfl, D1⟩
      · have hv := validBand_any g w
        rw [decide_eq_false hg] at hv
        rw [bandF, presF_there hx h0, if_neg hg]
        go_enter Tryz.func151, Tryz.ntmps151
        go_wp2_with fail
        refine (present_there S hx h0).mono ?_
        rintro e w ⟨rfl, rfl⟩
        go_wp2_with fail
        refine hv.mono ?_
        rintro e w ⟨rfl, rfl⟩
        go_wp2_with fail
        refine (refuse_any M.snk).mono ?_
        rintro e w1 ⟨rfl, rfl⟩
        go_wp2
        go_ret2
        exact ⟨rfl, Done.refl M⟩
  · rw [bandF, presF_bad hu]
    go_enter Tryz.func151, Tryz.ntmps151
    go_wp2_with fail
    refine (present_bad hu).mono ?_
    rintro e w ⟨rfl, rfl⟩
    go_wp2_with fail
    refine (refuse_any M.snk).mono ?_
    rintro e w1 ⟨rfl, rfl⟩
    go_wp2
    go_ret2
    exact ⟨rfl, Done.refl M⟩

end Go.Proofs.Qxb6500877aGreatDoor
