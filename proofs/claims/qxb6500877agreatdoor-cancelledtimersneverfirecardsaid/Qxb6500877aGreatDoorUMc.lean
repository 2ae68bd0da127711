import Derived.Test.Qxb6500877aGreatDoorUMb
set_option linter.unusedVariables false
set_option linter.unusedSimpArgs false
namespace Go.Proofs.Qxb6500877aGreatDoor
open Go.RowKit


/-- Two numbers are returned. -/
def Two (e : Ending) : Prop := ∃ a b : Int, e = .returned (.tuple #[.int .i64 a, .int .i64 b])
theorem two_mk (a b : Int) : Two (.returned (.tuple #[.int .i64 a, .int .i64 b])) := ⟨a, b, rfl⟩
set_option maxHeartbeats 1000000 in
theorem present_bad {w : World} {B : Nat} {u : Int} (hu : ¬ (0 ≤ u ∧ u < 16)) : Calls Tryz.prog 187 #[.pointer (some ⟨B, 0, none⟩), .int .i64 u] w fun e w' => e = .returned (.int .i64 5) ∧ w' = w := by
  have hv := validTask_any u w
  rw [decide_eq_false hu] at hv
  go_enter Tryz.func187, Tryz.ntmps187
  go_wp2_with fail
  refine hv.mono ?_
  rintro e w1 ⟨rfl, rfl⟩
  go_wp2
  go_ret
  exact ⟨rfl, rfl⟩
set_option maxHeartbeats 1000000 in
theorem present_absent {w : World} {B x : Nat} {s : Sched} (S : SchedAt w B s) (hx : x < 16) (h : (s.tk x).st = 0) : Calls Tryz.prog 187 #[.pointer (some ⟨B, 0, none⟩), .int .i64 (x : Int)] w fun e w' => e = .returned (.int .i64 12) ∧ w' = w := by
  have hv := validTask_any x w
  have hd : (0 : Int) ≤ x ∧ (x : Int) < 16 := by omega
  rw [decide_eq_true hd] at hv
  obtain ⟨t0, _⟩ := S.task hx
  rw [h] at t0
  obtain ⟨i0, i1⟩ := hd
  go_enter Tryz.func187, Tryz.ntmps187
  go_wp2_with fail
  refine hv.mono ?_
  rintro e w1 ⟨rfl, rfl⟩
  go_wp2
  go_ret
  exact ⟨rfl, rfl⟩
set_option maxHeartbeats 1000000 in
theorem present_there {w : World} {B x : Nat} {s : Sched} (S : SchedAt w B s) (hx : x < 16) (h : (s.tk x).st ≠ 0) : Calls Tryz.prog 187 #[.pointer (some ⟨B, 0, none⟩), .int .i64 (x : Int)] w fun e w' => e = .returned (.int .i64 0) ∧ w' = w := by
  have hv := validTask_any x w
  have hd : (0 : Int) ≤ x ∧ (x : Int) < 16 := by omega
  rw [decide_eq_true hd] at hv
  obtain ⟨t0, _⟩ := S.task hx
  have hb : ((s.tk x).st == 0) = false := by simpa using h
  obtain ⟨i0, i1⟩ := hd
  go_enter Tryz.func187, Tryz.ntmps187
  go_wp2_with fail
  refine hv.mono ?_
  rintro e w1 ⟨rfl, rfl⟩
  go_wp2
  go_ret
  exact ⟨rfl, rfl⟩
set_option maxHeartbeats 1000000 in
theorem changed_m {w : World} {B mb t k : Nat} {ν : Net} {τ : TSt} {x : Nat} (M : Mach w B mb t k ν τ) (hx : x < 16) : Calls Tryz.prog 189 #[.pointer (some ⟨B, 0, none⟩), .int .i64 (x : Int)] w fun e w' => Two e ∧ w' = w := by
  obtain ⟨s, S, K⟩ := M.sch
  obtain ⟨_, t1, _⟩ := S.task hx
  have i0 : (0 : Int) ≤ x := by omega
  have i1 : (x : Int) < 16 := by omega
  go_enter Tryz.func189, Tryz.ntmps189
  go_wp2_with fail
  refine (noteTask_any M.snk).mono ?_
  rintro e w1 ⟨rfl, rfl⟩
  go_wp2
  go_ret2
  exact ⟨two_mk _ _, rfl⟩

set_option maxHeartbeats 2000000 in
theorem ready_m {w : World} {B mb t k : Nat} {ν : Net} {τ : TSt} (M : Mach w B mb t k ν τ) (u : Int) : Calls Tryz.prog 147 #[.pointer (some ⟨B, 0, none⟩), .int .i64 u] w fun e w' => Two e ∧ Done w w' B mb t k ν τ := by
  obtain ⟨s, S, K⟩ := M.sch
  by_cases hu : 0 ≤ u ∧ u < 16
  · obtain ⟨x, rfl, hx⟩ : ∃ x : Nat, u = x ∧ x < 16 := ⟨u.toNat, by omega, by omega⟩
    have i0 : (0 : Int) ≤ x := by omega
    have i1 : (x : Int) < 16 := by omega
    clear hu
    by_cases h0 : (s.tk x).st = 0
    · go_enter Tryz.func147, Tryz.ntmps147
      go_wp2_with fail
      refine (present_absent S hx h0).mono ?_
      rintro e w ⟨rfl, rfl⟩
      go_wp2_with fail
      refine (refuse_any M.snk).mono ?_
      rintro e w1 ⟨rfl, rfl⟩
      go_wp2
      go_ret2
      exact ⟨two_mk _ _, Done.refl M⟩
    · obtain ⟨t0, t1, t2, _, _⟩ := S.task hx
      by_cases hs : (s.tk x).st = 1
      · have hb : ((s.tk x).st != 1) = false := by simp [hs]
        have HS := hideIt hs
        clear hs
        go_enter Tryz.func147, Tryz.ntmps147
        go_wp2_with fail
        refine (present_there S hx h0).mono ?_
        rintro e w ⟨rfl, rfl⟩
        go_wp2_with fail
        refine (ready_ok S K hx HS.out).mono ?_
        rintro e w1 ⟨rfl, S1, M1⟩
        have D1 : Done w w1 B mb t k ν τ := (Done.refl M).mut M1 (by omega) (M.sched M1 S1)
        go_wp2_with fail
        refine (changed_m D1.m hx).mono ?_
        rintro e w1 ⟨⟨a, b, rfl⟩, rfl⟩
        go_wp2
        go_ret2
        exact ⟨two_mk _ _, D1⟩
      · have hb : ((s.tk x).st != 1) = true := by simpa using hs
        have HS := hideIt hs
        clear hs
        go_enter Tryz.func147, Tryz.ntmps147
        go_wp2_with fail
        refine (present_there S hx h0).mono ?_
        rintro e w ⟨rfl, rfl⟩
        go_wp2_with fail
        refine (refuse_any M.snk).mono ?_
        rintro e w1 ⟨rfl, rfl⟩
        go_wp2
        go_ret2
        exact ⟨two_mk _ _, Done.refl M⟩
  · go_enter Tryz.func147, Tryz.ntmps147
    go_wp2_with fail
    refine (present_bad hu).mono ?_
    rintro e w ⟨rfl, rfl⟩
    go_wp2_with fail
    refine (refuse_any M.snk).mono ?_
    rintro e w1 ⟨rfl, rfl⟩
    go_wp2
    go_ret2
    exact ⟨two_mk _ _, Done.refl M⟩

set_option maxHeartbeats 2000000 in
theorem park_m {w : World} {B mb t k : Nat} {ν : Net} {τ : TSt} (M : Mach w B mb t k ν τ) (u : Int) : Calls Tryz.prog 148 #[.pointer (some ⟨B, 0, none⟩), .int .i64 u] w fun e w' => Two e ∧ Done w w' B mb t k ν τ := by
  obtain ⟨s, S, K⟩ := M.sch
  by_cases hu : 0 ≤ u ∧ u < 16
  · obtain ⟨x, rfl, hx⟩ : ∃ x : Nat, u = x ∧ x < 16 := ⟨u.toNat, by omega, by omega⟩
    have i0 : (0 : Int) ≤ x := by omega
    have i1 : (x : Int) < 16 := by omega
    clear hu
    by_cases h0 : (s.tk x).st = 0
    · go_enter Tryz.func148, Tryz.ntmps148
      go_wp2_with fail
      refine (present_absent S hx h0).mono ?_
      rintro e w ⟨rfl, rfl⟩
      go_wp2_with fail
      refine (refuse_any M.snk).mono ?_
      rintro e w1 ⟨rfl, rfl⟩
      go_wp2
      go_ret2
      exact ⟨two_mk _ _, Done.refl M⟩
    · obtain ⟨t0, t1, t2, _, _⟩ := S.task hx
      by_cases hs : (s.tk x).st = 1
      · have hb : ((s.tk x).st == 1) = true := by simp [hs]
        have HS := hideIt hs
        clear hs
        go_enter Tryz.func148, Tryz.ntmps148
        go_wp2_with fail
        refine (present_there S hx h0).mono ?_
        rintro e w ⟨rfl, rfl⟩
        go_wp2_with fail
        refine (refuse_any M.snk).mono ?_
        rintro e w1 ⟨rfl, rfl⟩
        go_wp2
        go_ret2
        exact ⟨two_mk _ _, Done.refl M⟩
      · have hb : ((s.tk x).st == 1) = false := by simpa using hs
        have HS := hideIt hs
        clear hs
        go_enter Tryz.func148, Tryz.ntmps148
        go_wp2_with fail
        refine (present_there S hx h0).mono ?_
        rintro e w ⟨rfl, rfl⟩
        go_wp2_with fail
        refine (park_ok S K hx h0).mono ?_
        rintro e w1 ⟨rfl, S1, M1⟩
        have D1 : Done w w1 B mb t k ν τ := (Done.refl M).mut M1 (by omega) (M.sched M1 S1)
        go_wp2_with fail
        refine (changed_m D1.m hx).mono ?_
        rintro e w1 ⟨⟨a, b, rfl⟩, rfl⟩
        go_wp2
        go_ret2
        exact ⟨two_mk _ _, D1⟩
  · go_enter Tryz.func148, Tryz.ntmps148
    go_wp2_with fail
    refine (present_bad hu).mono ?_
    rintro e w ⟨rfl, rfl⟩
    go_wp2_with fail
    refine (refuse_any M.snk).mono ?_
    rintro e w1 ⟨rfl, rfl⟩
    go_wp2
    go_ret2
    exact ⟨two_mk _ _, Done.refl M⟩

set_option maxHeartbeats 2000000 in
theorem yield_m {w : World} {B mb t k : Nat} {ν : Net} {τ : TSt} (M : Mach w B mb t k ν τ) (u : Int) : Calls Tryz.prog 149 #[.pointer (some ⟨B, 0, none⟩), .int .i64 u] w fun e w' => Two e ∧ Done w w' B mb t k ν τ := by
  obtain ⟨s, S, K⟩ := M.sch
  by_cases hu : 0 ≤ u ∧ u < 16
  · obtain ⟨x, rfl, hx⟩ : ∃ x : Nat, u = x ∧ x < 16 := ⟨u.toNat, by omega, by omega⟩
    have i0 : (0 : Int) ≤ x := by omega
    have i1 : (x : Int) < 16 := by omega
    clear hu
    by_cases h0 : (s.tk x).st = 0
    · go_enter Tryz.func149, Tryz.ntmps149
      go_wp2_with fail
      refine (present_absent S hx h0).mono ?_
      rintro e w ⟨rfl, rfl⟩
      go_wp2_with fail
      refine (refuse_any M.snk).mono ?_
      rintro e w1 ⟨rfl, rfl⟩
      go_wp2
      go_ret2
      exact ⟨two_mk _ _, Done.refl M⟩
    · obtain ⟨t0, t1, t2, _, _⟩ := S.task hx
      by_cases hs : (s.tk x).st = 3
      · have hb : ((s.tk x).st != 3) = false := by simp [hs]
        have HS := hideIt hs
        clear hs
        go_enter Tryz.func149, Tryz.ntmps149
        go_wp2_with fail
        refine (present_there S hx h0).mono ?_
        rintro e w ⟨rfl, rfl⟩
        go_wp2_with fail
        refine (yield_ok S K hx h0).mono ?_
        rintro e w1 ⟨rfl, S1, M1⟩
        have D1 : Done w w1 B mb t k ν τ := (Done.refl M).mut M1 (by omega) (M.sched M1 S1)
        go_wp2_with fail
        refine (changed_m D1.m hx).mono ?_
        rintro e w1 ⟨⟨a, b, rfl⟩, rfl⟩
        go_wp2
        go_ret2
        exact ⟨two_mk _ _, D1⟩
      · have hb : ((s.tk x).st != 3) = true := by simpa using hs
        have HS := hideIt hs
        clear hs
        go_enter Tryz.func149, Tryz.ntmps149
        go_wp2_with fail
        refine (present_there S hx h0).mono ?_
        rintro e w ⟨rfl, rfl⟩
        go_wp2_with fail
        refine (refuse_any M.snk).mono ?_
        rintro e w1 ⟨rfl, rfl⟩
        go_wp2
        go_ret2
        exact ⟨two_mk _ _, Done.refl M⟩
  · go_enter Tryz.func149, Tryz.ntmps149
    go_wp2_with fail
    refine (present_bad hu).mono ?_
    rintro e w ⟨rfl, rfl⟩
    go_wp2_with fail
    refine (refuse_any M.snk).mono ?_
    rintro e w1 ⟨rfl, rfl⟩
    go_wp2
    go_ret2
    exact ⟨two_mk _ _, Done.refl M⟩

set_option maxHeartbeats 2000000 in
theorem detach_m {w : World} {B mb t k : Nat} {ν : Net} {τ : TSt} (M : Mach w B mb t k ν τ) (u : Int) : Calls Tryz.prog 146 #[.pointer (some ⟨B, 0, none⟩), .int .i64 u] w fun e w' => Two e ∧ Done w w' B mb t k ν τ := by
  obtain ⟨s, S, K⟩ := M.sch
  by_cases hu : 0 ≤ u ∧ u < 16
  · obtain ⟨x, rfl, hx⟩ : ∃ x : Nat, u = x ∧ x < 16 := ⟨u.toNat, by omega, by omega⟩
    have i0 : (0 : Int) ≤ x := by omega
    have i1 : (x : Int) < 16 := by omega
    clear hu
    by_cases h0 : (s.tk x).st = 0
    · go_enter Tryz.func146, Tryz.ntmps146
      go_wp2_with fail
      refine (present_absent S hx h0).mono ?_
      rintro e w ⟨rfl, rfl⟩
      go_wp2_with fail
      refine (refuse_any M.snk).mono ?_
      rintro e w1 ⟨rfl, rfl⟩
      go_wp2
      go_ret2
      exact ⟨two_mk _ _, Done.refl M⟩
    · obtain ⟨t0, t1, t2, _, _⟩ := S.task hx
      go_enter Tryz.func146, Tryz.ntmps146
      go_wp2_with fail
      refine (present_there S hx h0).mono ?_
      rintro e w ⟨rfl, rfl⟩
      go_wp2_with fail
      refine (detach_ok S K hx h0 M.vac (by have := M.hB; omega)).mono ?_
      rintro e w1 ⟨rfl, S1, M1⟩
      have D1 : Done w w1 B mb t k ν τ := (Done.refl M).mut M1 (by omega) (M.sched M1 S1)
      go_wp2_with fail
      refine (noteTask_any D1.m.snk).mono ?_
      rintro e w1 ⟨rfl, rfl⟩
      go_wp2
      go_ret2
      exact ⟨two_mk _ _, D1⟩
  · go_enter Tryz.func146, Tryz.ntmps146
    go_wp2_with fail
    refine (present_bad hu).mono ?_
    rintro e w ⟨rfl, rfl⟩
    go_wp2_with fail
    refine (refuse_any M.snk).mono ?_
    rintro e w1 ⟨rfl, rfl⟩
    go_wp2
    go_ret2
    exact ⟨two_mk _ _, Done.refl M⟩

set_option maxHeartbeats 2000000 in
theorem migrate_m {w : World} {B mb t k : Nat} {ν : Net} {τ : TSt} (M : Mach w B mb t k ν τ) (u g : Int) : Calls Tryz.prog 150 #[.pointer (some ⟨B, 0, none⟩), .int .i64 u, .int .i64 g] w fun e w' => Two e ∧ Done w w' B mb t k ν τ := by
  obtain ⟨s, S, K⟩ := M.sch
  by_cases hu : 0 ≤ u ∧ u < 16
  · obtain ⟨x, rfl, hx⟩ : ∃ x : Nat, u = x ∧ x < 16 := ⟨u.toNat, by omega, by omega⟩
    have i0 : (0 : Int) ≤ x := by omega
    have i1 : (x : Int) < 16 := by omega
    clear hu
    by_cases h0 : (s.tk x).st = 0
    · go_enter Tryz.func150, Tryz.ntmps150
      go_wp2_with fail
      refine (present_absent S hx h0).mono ?_
      rintro e w ⟨rfl, rfl⟩
      go_wp2_with fail
      refine (refuse_any M.snk).mono ?_
      rintro e w1 ⟨rfl, rfl⟩
      go_wp2
      go_ret2
      exact ⟨two_mk _ _, Done.refl M⟩
    · obtain ⟨t0, t1, t2, _, _⟩ := S.task hx
      by_cases hg : 0 ≤ g ∧ g < 4
      · obtain ⟨y, rfl, hy⟩ : ∃ y : Nat, g = y ∧ y < 4 := ⟨g.toNat, by omega, by omega⟩
        have hv := validCore_any (y : Int) w
        rw [decide_eq_true hg] at hv
        clear hg
        by_cases hs : (s.tk x).home = y
        · have hb : ((s.tk x).home == (y : Int)) = true := by simp [hs]
          have HS := hideIt hs
          clear hs
          go_enter Tryz.func150, Tryz.ntmps150
          go_wp2_with fail
          refine (present_there S hx h0).mono ?_
          rintro e w ⟨rfl, rfl⟩
          go_wp2_with fail
          refine hv.mono ?_
          rintro e w ⟨rfl, rfl⟩
          go_wp2
          go_ret2
          exact ⟨two_mk _ _, Done.refl M⟩
        · have hb : ((s.tk x).home == (y : Int)) = false := by simpa using hs
          have HS := hideIt hs
          clear hs
          go_enter Tryz.func150, Tryz.ntmps150
          go_wp2_with fail
          refine (present_there S hx h0).mono ?_
          rintro e w ⟨rfl, rfl⟩
          go_wp2_with fail
          refine hv.mono ?_
          rintro e w ⟨rfl, rfl⟩
          go_wp2_with fail
          refine (migrate_ok S K hx h0 hy HS.out).mono ?_
          rintro e w1 ⟨rfl, S1, M1⟩
          have D1 : Done w w1 B mb t k ν τ := (Done.refl M).mut M1 (by omega) (M.sched M1 S1)
          go_wp2_with fail
          refine (changed_m D1.m hx).mono ?_
          rintro e w1 ⟨⟨a, b, rfl⟩, rfl⟩
          go_wp2
          go_ret2
          exact ⟨two_mk _ _, D1⟩
      · have hv := validCore_any g w
        rw [decide_eq_false hg] at hv
        go_enter Tryz.func150, Tryz.ntmps150
        go_wp2_with fail
        refine (present_there S hx h0).mono ?_
        rintro e w ⟨rfl, rfl⟩
        go_wp2_with fail
        refine hv.mono ?_
        rintro e w ⟨rfl, rfl⟩
        go_wp2_with fail
        refine (refuse_any M.snk).mono ?_
        rintro e w1 ⟨rfl, rfl⟩
        go_wp2
        go_ret2
        exact ⟨two_mk _ _, Done.refl M⟩
  · go_enter Tryz.func150, Tryz.ntmps150
    go_wp2_with fail
    refine (present_bad hu).mono ?_
    rintro e w ⟨rfl, rfl⟩
    go_wp2_with fail
    refine (refuse_any M.snk).mono ?_
    rintro e w1 ⟨rfl, rfl⟩
    go_wp2
    go_ret2
    exact ⟨two_mk _ _, Done.refl M⟩

set_option maxHeartbeats 2000000 in
theorem setBand_m {w : World} {B mb t k : Nat} {ν : Net} {τ : TSt} (M : Mach w B mb t k ν τ) (u g : Int) : Calls Tryz.prog 151 #[.pointer (some ⟨B, 0, none⟩), .int .i64 u, .int .i64 g] w fun e w' => Two e ∧ Done w w' B mb t k ν τ := by
  obtain ⟨s, S, K⟩ := M.sch
  by_cases hu : 0 ≤ u ∧ u < 16
  · obtain ⟨x, rfl, hx⟩ : ∃ x : Nat, u = x ∧ x < 16 := ⟨u.toNat, by omega, by omega⟩
    have i0 : (0 : Int) ≤ x := by omega
    have i1 : (x : Int) < 16 := by omega
    clear hu
    by_cases h0 : (s.tk x).st = 0
    · go_enter Tryz.func151, Tryz.ntmps151
      go_wp2_with fail
      refine (present_absent S hx h0).mono ?_
      rintro e w ⟨rfl, rfl⟩
      go_wp2_with fail
      refine (refuse_any M.snk).mono ?_
      rintro e w1 ⟨rfl, rfl⟩
      go_wp2
      go_ret2
      exact ⟨two_mk _ _, Done.refl M⟩
    · obtain ⟨t0, t1, t2, _, _⟩ := S.task hx
      obtain ⟨hh, bb, rr⟩ := K.row hx h0
      have hwb : IntKind.i64.wrap (s.tk x).band = (s.tk x).band := wrap_i64 (by have h1 := rr.eb; have h2 := rr.hb; omega)
      clear rr
      by_cases hg : 0 ≤ g ∧ g < 4
      · obtain ⟨y, rfl, hy⟩ : ∃ y : Nat, g = y ∧ y < 4 := ⟨g.toNat, by omega, by omega⟩
        have hv := validBand_any (y : Int) w
        rw [decide_eq_true hg] at hv
        clear hg
        by_cases hs : (s.tk x).band = y
        · have hb : ((s.tk x).band == (y : Int)) = true := by simp [hs]
          have HS := hideIt hs
          clear hs
          go_enter Tryz.func151, Tryz.ntmps151
          go_wp2_with fail
          refine (present_there S hx h0).mono ?_
          rintro e w ⟨rfl, rfl⟩
          go_wp2_with fail
          refine hv.mono ?_
          rintro e w ⟨rfl, rfl⟩
          go_wp2
          go_ret2
          exact ⟨two_mk _ _, Done.refl M⟩
        · have hb : ((s.tk x).band == (y : Int)) = false := by simpa using hs
          have HS := hideIt hs
          clear hs
          go_enter Tryz.func151, Tryz.ntmps151
          go_wp2_with fail
          refine (present_there S hx h0).mono ?_
          rintro e w ⟨rfl, rfl⟩
          go_wp2_with fail
          refine hv.mono ?_
          rintro e w ⟨rfl, rfl⟩
          go_wp2_with fail
          refine (setBand_ok S K hx h0 hy).mono ?_
          rintro e w1 ⟨rfl, S1, M1⟩
          have D1 : Done w w1 B mb t k ν τ := (Done.refl M).mut M1 (by omega) (M.sched M1 S1)
          go_wp2_with fail
          refine (changed_m D1.m hx).mono ?_
          rintro e w1 ⟨⟨a, b, rfl⟩, rfl⟩
          go_wp2
          go_ret2
          exact ⟨two_mk _ _, D1⟩
      · have hv := validBand_any g w
        rw [decide_eq_false hg] at hv
        go_enter Tryz.func151, Tryz.ntmps151
        go_wp2_with fail
        refine (present_there S hx h0).mono ?_
        rintro e w ⟨rfl, rfl⟩
        go_wp2_with fail
        refine hv.mono ?_
        rintro e w ⟨rfl, rfl⟩
        go_wp2_with fail
        refine (refuse_any M.snk).mono ?_
        rintro e w1 ⟨rfl, rfl⟩
        go_wp2
        go_ret2
        exact ⟨two_mk _ _, Done.refl M⟩
  · go_enter Tryz.func151, Tryz.ntmps151
    go_wp2_with fail
    refine (present_bad hu).mono ?_
    rintro e w ⟨rfl, rfl⟩
    go_wp2_with fail
    refine (refuse_any M.snk).mono ?_
    rintro e w1 ⟨rfl, rfl⟩
    go_wp2
    go_ret2
    exact ⟨two_mk _ _, Done.refl M⟩

end Go.Proofs.Qxb6500877aGreatDoor
