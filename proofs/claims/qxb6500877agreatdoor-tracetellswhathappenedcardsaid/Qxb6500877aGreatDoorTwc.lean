import Derived.Deep.CutBlock
import Derived.OwnWalk
import Derived.Maps.AppendAt
import Derived.Test.Qxb6500877aGreatDoorTw
set_option linter.unusedVariables false
set_option linter.unusedSimpArgs false
namespace Go.Proofs.Qxb6500877aGreatDoor
open Go.RowKit

namespace W
/-- What is told of a step on a task. -/
def tellT (t : Nat) (r : TRes) (x : Int) (mv : Bool) : List EvS := if r.c = 0 then (if mv = true then [evT t 9 r.co x (r.s.tk x.toNat).st] else []) else [evR t r.c]
def TD (r : TRes) (es : List EvS) (w w' : World) (B mb t k : Nat) (ν : Net) (τ : TSt) (σ : Sg) (L : LS) (e : Ending) : Prop := e = .returned (.tuple #[.int .i64 r.co, .int .i64 r.c]) ∧ ∃ L', Done w w' B mb t k ν τ (σ.put r.s) L L' ∧ L'.l = L.l ++ es
set_option maxHeartbeats 1000000 in
theorem changed_m {w : World} {B mb t k : Nat} {ν : Net} {τ : TSt} {σ : Sg} {L : LS} {x : Nat} (M : Mach w B mb t k ν τ σ L) (hl : L.l.length < 999999000) (hx : x < 16) : Calls Tryz.prog 189 #[.pointer (some ⟨B, 0, none⟩), .int .i64 (x : Int)] w fun e w' => e = .returned (.tuple #[.int .i64 (σ.s.tk x).home, .int .i64 0]) ∧ ∃ L', Done w w' B mb t k ν τ σ L L' ∧ L'.l = L.l ++ [evT t 9 (σ.s.tk x).home x (σ.s.tk x).st] := by
  obtain ⟨S, K⟩ := M.sch
  obtain ⟨_, t1, _⟩ := S.task hx
  have i0 : (0 : Int) ≤ x := by omega
  have i1 : (x : Int) < 16 := by omega
  go_enter Tryz.func189, Tryz.ntmps189
  go_wp2_with fail
  refine (noteTask_any M (by omega) hx).mono ?_
  rintro e w1 ⟨rfl, N1⟩
  go_wp2
  go_ret2
  exact ⟨rfl, N1⟩
set_option maxHeartbeats 2000000 in
theorem ready_m {w : World} {B mb t k : Nat} {ν : Net} {τ : TSt} {σ : Sg} {L : LS} (M : Mach w B mb t k ν τ σ L) (hl : L.l.length < 999999000) (u : Int) : Calls Tryz.prog 147 #[.pointer (some ⟨B, 0, none⟩), .int .i64 u] w fun e w' => TD (readyF σ.s u) (tellT t (readyF σ.s u) u true) w w' B mb t k ν τ σ L e := by
  obtain ⟨S, K⟩ := M.sch
  by_cases hu : 0 ≤ u ∧ u < 16
  · obtain ⟨x, rfl, hx⟩ : ∃ x : Nat, u = x ∧ x < 16 := ⟨u.toNat, by omega, by omega⟩
    have i0 : (0 : Int) ≤ x := by omega
    have i1 : (x : Int) < 16 := by omega
    clear hu
    by_cases h0 : (σ.s.tk x).st = 0
    · rw [readyF, presF_absent hx h0]
      go_enter Tryz.func147, Tryz.ntmps147
      go_wp2_with fail
      refine (present_absent S hx h0).mono ?_
      rintro e w ⟨rfl, rfl⟩
      go_wp2_with fail
      refine (refuse_any M (by omega)).mono ?_
      rintro e w1 ⟨rfl, L1, N1, e1⟩
      go_wp2
      go_ret2
      exact ⟨rfl, L1, N1, e1⟩
    · obtain ⟨t0, t1, t2, _, _⟩ := S.task hx
      by_cases hs : (σ.s.tk x).st = 1
      · have hb : ((σ.s.tk x).st != 1) = false := by simp [hs]
        have HS := hideIt hs
        clear hs
        rw [readyF, presF_there hx h0, if_pos HS.out]
        go_enter Tryz.func147, Tryz.ntmps147
        go_wp2_with fail
        refine (present_there S hx h0).mono ?_
        rintro e w ⟨rfl, rfl⟩
        go_wp2_with fail
        refine (ready_s S K hx HS.out).mono ?_
        rintro e w1 ⟨rfl, S1, M1⟩
        have D1 := (Done.refl M).mut M1 (by omega) (M.sched M1 S1)
        go_wp2_with fail
        refine (changed_m D1.m (by omega) hx).mono ?_
        rintro e w2 ⟨rfl, L2, N2, e2⟩
        go_wp2
        go_ret2
        exact ⟨rfl, L2, D1.trans N2, e2⟩
      · have hb : ((σ.s.tk x).st != 1) = true := by simpa using hs
        have HS := hideIt hs
        clear hs
        rw [readyF, presF_there hx h0, if_neg HS.out]
        go_enter Tryz.func147, Tryz.ntmps147
        go_wp2_with fail
        refine (present_there S hx h0).mono ?_
        rintro e w ⟨rfl, rfl⟩
        go_wp2_with fail
        refine (refuse_any M (by omega)).mono ?_
        rintro e w1 ⟨rfl, L1, N1, e1⟩
        go_wp2
        go_ret2
        exact ⟨rfl, L1, N1, e1⟩
  · rw [readyF, presF_bad hu]
    go_enter Tryz.func147, Tryz.ntmps147
    go_wp2_with fail
    refine (present_bad hu).mono ?_
    rintro e w ⟨rfl, rfl⟩
    go_wp2_with fail
    refine (refuse_any M (by omega)).mono ?_
    rintro e w1 ⟨rfl, L1, N1, e1⟩
    go_wp2
    go_ret2
    exact ⟨rfl, L1, N1, e1⟩
set_option maxHeartbeats 2000000 in
theorem park_m {w : World} {B mb t k : Nat} {ν : Net} {τ : TSt} {σ : Sg} {L : LS} (M : Mach w B mb t k ν τ σ L) (hl : L.l.length < 999999000) (u : Int) : Calls Tryz.prog 148 #[.pointer (some ⟨B, 0, none⟩), .int .i64 u] w fun e w' => TD (parkF σ.s u) (tellT t (parkF σ.s u) u true) w w' B mb t k ν τ σ L e := by
  obtain ⟨S, K⟩ := M.sch
  by_cases hu : 0 ≤ u ∧ u < 16
  · obtain ⟨x, rfl, hx⟩ : ∃ x : Nat, u = x ∧ x < 16 := ⟨u.toNat, by omega, by omega⟩
    have i0 : (0 : Int) ≤ x := by omega
    have i1 : (x : Int) < 16 := by omega
    clear hu
    by_cases h0 : (σ.s.tk x).st = 0
    · rw [parkF, presF_absent hx h0]
      go_enter Tryz.func148, Tryz.ntmps148
      go_wp2_with fail
      refine (present_absent S hx h0).mono ?_
      rintro e w ⟨rfl, rfl⟩
      go_wp2_with fail
      refine (refuse_any M (by omega)).mono ?_
      rintro e w1 ⟨rfl, L1, N1, e1⟩
      go_wp2
      go_ret2
      exact ⟨rfl, L1, N1, e1⟩
    · obtain ⟨t0, t1, t2, _, _⟩ := S.task hx
      by_cases hs : (σ.s.tk x).st = 1
      · have hb : ((σ.s.tk x).st == 1) = true := by simp [hs]
        have HS := hideIt hs
        clear hs
        rw [parkF, presF_there hx h0, if_pos HS.out]
        go_enter Tryz.func148, Tryz.ntmps148
        go_wp2_with fail
        refine (present_there S hx h0).mono ?_
        rintro e w ⟨rfl, rfl⟩
        go_wp2_with fail
        refine (refuse_any M (by omega)).mono ?_
        rintro e w1 ⟨rfl, L1, N1, e1⟩
        go_wp2
        go_ret2
        exact ⟨rfl, L1, N1, e1⟩
      · have hb : ((σ.s.tk x).st == 1) = false := by simpa using hs
        have HS := hideIt hs
        clear hs
        rw [parkF, presF_there hx h0, if_neg HS.out]
        go_enter Tryz.func148, Tryz.ntmps148
        go_wp2_with fail
        refine (present_there S hx h0).mono ?_
        rintro e w ⟨rfl, rfl⟩
        go_wp2_with fail
        refine (park_s S K hx h0).mono ?_
        rintro e w1 ⟨rfl, S1, M1⟩
        have D1 := (Done.refl M).mut M1 (by omega) (M.sched M1 S1)
        go_wp2_with fail
        refine (changed_m D1.m (by omega) hx).mono ?_
        rintro e w2 ⟨rfl, L2, N2, e2⟩
        go_wp2
        go_ret2
        exact ⟨rfl, L2, D1.trans N2, e2⟩
  · rw [parkF, presF_bad hu]
    go_enter Tryz.func148, Tryz.ntmps148
    go_wp2_with fail
    refine (present_bad hu).mono ?_
    rintro e w ⟨rfl, rfl⟩
    go_wp2_with fail
    refine (refuse_any M (by omega)).mono ?_
    rintro e w1 ⟨rfl, L1, N1, e1⟩
    go_wp2
    go_ret2
    exact ⟨rfl, L1, N1, e1⟩
set_option maxHeartbeats 2000000 in
theorem yield_m {w : World} {B mb t k : Nat} {ν : Net} {τ : TSt} {σ : Sg} {L : LS} (M : Mach w B mb t k ν τ σ L) (hl : L.l.length < 999999000) (u : Int) : Calls Tryz.prog 149 #[.pointer (some ⟨B, 0, none⟩), .int .i64 u] w fun e w' => TD (yieldF σ.s u) (tellT t (yieldF σ.s u) u true) w w' B mb t k ν τ σ L e := by
  obtain ⟨S, K⟩ := M.sch
  by_cases hu : 0 ≤ u ∧ u < 16
  · obtain ⟨x, rfl, hx⟩ : ∃ x : Nat, u = x ∧ x < 16 := ⟨u.toNat, by omega, by omega⟩
    have i0 : (0 : Int) ≤ x := by omega
    have i1 : (x : Int) < 16 := by omega
    clear hu
    by_cases h0 : (σ.s.tk x).st = 0
    · rw [yieldF, presF_absent hx h0]
      go_enter Tryz.func149, Tryz.ntmps149
      go_wp2_with fail
      refine (present_absent S hx h0).mono ?_
      rintro e w ⟨rfl, rfl⟩
      go_wp2_with fail
      refine (refuse_any M (by omega)).mono ?_
      rintro e w1 ⟨rfl, L1, N1, e1⟩
      go_wp2
      go_ret2
      exact ⟨rfl, L1, N1, e1⟩
    · obtain ⟨t0, t1, t2, _, _⟩ := S.task hx
      by_cases hs : (σ.s.tk x).st = 3
      · have hb : ((σ.s.tk x).st != 3) = false := by simp [hs]
        have HS := hideIt hs
        clear hs
        rw [yieldF, presF_there hx h0, if_pos HS.out]
        go_enter Tryz.func149, Tryz.ntmps149
        go_wp2_with fail
        refine (present_there S hx h0).mono ?_
        rintro e w ⟨rfl, rfl⟩
        go_wp2_with fail
        refine (yield_s S K hx h0).mono ?_
        rintro e w1 ⟨rfl, S1, M1⟩
        have D1 := (Done.refl M).mut M1 (by omega) (M.sched M1 S1)
        go_wp2_with fail
        refine (changed_m D1.m (by omega) hx).mono ?_
        rintro e w2 ⟨rfl, L2, N2, e2⟩
        go_wp2
        go_ret2
        exact ⟨rfl, L2, D1.trans N2, e2⟩
      · have hb : ((σ.s.tk x).st != 3) = true := by simpa using hs
        have HS := hideIt hs
        clear hs
        rw [yieldF, presF_there hx h0, if_neg HS.out]
        go_enter Tryz.func149, Tryz.ntmps149
        go_wp2_with fail
        refine (present_there S hx h0).mono ?_
        rintro e w ⟨rfl, rfl⟩
        go_wp2_with fail
        refine (refuse_any M (by omega)).mono ?_
        rintro e w1 ⟨rfl, L1, N1, e1⟩
        go_wp2
        go_ret2
        exact ⟨rfl, L1, N1, e1⟩
  · rw [yieldF, presF_bad hu]
    go_enter Tryz.func149, Tryz.ntmps149
    go_wp2_with fail
    refine (present_bad hu).mono ?_
    rintro e w ⟨rfl, rfl⟩
    go_wp2_with fail
    refine (refuse_any M (by omega)).mono ?_
    rintro e w1 ⟨rfl, L1, N1, e1⟩
    go_wp2
    go_ret2
    exact ⟨rfl, L1, N1, e1⟩
set_option maxHeartbeats 2000000 in
theorem detach_m {w : World} {B mb t k : Nat} {ν : Net} {τ : TSt} {σ : Sg} {L : LS} (M : Mach w B mb t k ν τ σ L) (hl : L.l.length < 999999000) (u : Int) : Calls Tryz.prog 146 #[.pointer (some ⟨B, 0, none⟩), .int .i64 u] w fun e w' => TD (detachG σ.s u) (tellT t (detachG σ.s u) u true) w w' B mb t k ν τ σ L e := by
  obtain ⟨S, K⟩ := M.sch
  by_cases hu : 0 ≤ u ∧ u < 16
  · obtain ⟨x, rfl, hx⟩ : ∃ x : Nat, u = x ∧ x < 16 := ⟨u.toNat, by omega, by omega⟩
    have i0 : (0 : Int) ≤ x := by omega
    have i1 : (x : Int) < 16 := by omega
    clear hu
    by_cases h0 : (σ.s.tk x).st = 0
    · rw [detachG, presF_absent hx h0]
      go_enter Tryz.func146, Tryz.ntmps146
      go_wp2_with fail
      refine (present_absent S hx h0).mono ?_
      rintro e w ⟨rfl, rfl⟩
      go_wp2_with fail
      refine (refuse_any M (by omega)).mono ?_
      rintro e w1 ⟨rfl, L1, N1, e1⟩
      go_wp2
      go_ret2
      exact ⟨rfl, L1, N1, e1⟩
    · obtain ⟨t0, t1, t2, _, _⟩ := S.task hx
      rw [detachG, presF_there hx h0]
      go_enter Tryz.func146, Tryz.ntmps146
      go_wp2_with fail
      refine (present_there S hx h0).mono ?_
      rintro e w ⟨rfl, rfl⟩
      go_wp2_with fail
      refine (detach_s S K hx h0 M.vac (by have := M.hB; omega)).mono ?_
      rintro e w1 ⟨rfl, S1, M1⟩
      have D1 := (Done.refl M).mut M1 (by omega) (M.sched M1 S1)
      go_wp2_with fail
      refine (noteTask_any D1.m (by omega) hx).mono ?_
      rintro e w2 ⟨rfl, L2, N2, e2⟩
      go_wp2
      go_ret2
      exact ⟨rfl, L2, D1.trans N2, e2⟩
  · rw [detachG, presF_bad hu]
    go_enter Tryz.func146, Tryz.ntmps146
    go_wp2_with fail
    refine (present_bad hu).mono ?_
    rintro e w ⟨rfl, rfl⟩
    go_wp2_with fail
    refine (refuse_any M (by omega)).mono ?_
    rintro e w1 ⟨rfl, L1, N1, e1⟩
    go_wp2
    go_ret2
    exact ⟨rfl, L1, N1, e1⟩
set_option maxHeartbeats 2000000 in
theorem migrate_m {w : World} {B mb t k : Nat} {ν : Net} {τ : TSt} {σ : Sg} {L : LS} (M : Mach w B mb t k ν τ σ L) (hl : L.l.length < 999999000) (u g : Int) : Calls Tryz.prog 150 #[.pointer (some ⟨B, 0, none⟩), .int .i64 u, .int .i64 g] w fun e w' => TD (migrateG σ.s u g) (tellT t (migrateG σ.s u g) u (decide ((σ.s.tk u.toNat).home ≠ g))) w w' B mb t k ν τ σ L e := by
  obtain ⟨S, K⟩ := M.sch
  by_cases hu : 0 ≤ u ∧ u < 16
  · obtain ⟨x, rfl, hx⟩ : ∃ x : Nat, u = x ∧ x < 16 := ⟨u.toNat, by omega, by omega⟩
    have i0 : (0 : Int) ≤ x := by omega
    have i1 : (x : Int) < 16 := by omega
    clear hu
    by_cases h0 : (σ.s.tk x).st = 0
    · rw [migrateG, presF_absent hx h0]
      go_enter Tryz.func150, Tryz.ntmps150
      go_wp2_with fail
      refine (present_absent S hx h0).mono ?_
      rintro e w ⟨rfl, rfl⟩
      go_wp2_with fail
      refine (refuse_any M (by omega)).mono ?_
      rintro e w1 ⟨rfl, L1, N1, e1⟩
      go_wp2
      go_ret2
      exact ⟨rfl, L1, N1, e1⟩
    · obtain ⟨t0, t1, t2, _, _⟩ := S.task hx
      by_cases hg : 0 ≤ g ∧ g < 4
      · obtain ⟨y, rfl, hy⟩ : ∃ y : Nat, g = y ∧ y < 4 := ⟨g.toNat, by omega, by omega⟩
        have hv := validCore_any (y : Int) w
        rw [decide_eq_true hg] at hv
        clear hg
        by_cases hs : (σ.s.tk x).home = y
        · have hb : ((σ.s.tk x).home == (y : Int)) = true := by simp [hs]
          have HS := hideIt hs
          clear hs
          rw [migrateG, presF_there hx h0, if_pos (by omega), if_pos HS.out]
          rw [show decide ((σ.s.tk ((x : Nat) : Int).toNat).home ≠ ((y : Nat) : Int)) = false from by rw [Int.toNat_natCast]; exact decide_eq_false (fun h => h HS.out)]
          go_enter Tryz.func150, Tryz.ntmps150
          go_wp2_with fail
          refine (present_there S hx h0).mono ?_
          rintro e w ⟨rfl, rfl⟩
          go_wp2_with fail
          refine hv.mono ?_
          rintro e w ⟨rfl, rfl⟩
          go_wp2
          go_ret2
          exact ⟨rfl, L, Done.refl M, (List.append_nil _).symm⟩
        · have hb : ((σ.s.tk x).home == (y : Int)) = false := by simpa using hs
          have HS := hideIt hs
          clear hs
          rw [show decide ((σ.s.tk ((x : Nat) : Int).toNat).home ≠ ((y : Nat) : Int)) = true from by rw [Int.toNat_natCast]; exact decide_eq_true HS.out]
          rw [migrateG, presF_there hx h0, if_pos (by omega), if_neg HS.out, Int.toNat_natCast]
          go_enter Tryz.func150, Tryz.ntmps150
          go_wp2_with fail
          refine (present_there S hx h0).mono ?_
          rintro e w ⟨rfl, rfl⟩
          go_wp2_with fail
          refine hv.mono ?_
          rintro e w ⟨rfl, rfl⟩
          go_wp2_with fail
          refine (migrate_s S K hx h0 hy HS.out).mono ?_
          rintro e w1 ⟨rfl, S1, M1⟩
          have D1 := (Done.refl M).mut M1 (by omega) (M.sched M1 S1)
          go_wp2_with fail
          refine (changed_m D1.m (by omega) hx).mono ?_
          rintro e w2 ⟨rfl, L2, N2, e2⟩
          go_wp2
          go_ret2
          exact ⟨rfl, L2, D1.trans N2, e2⟩
      · have hv := validCore_any g w
        rw [decide_eq_false hg] at hv
        rw [migrateG, presF_there hx h0, if_neg hg]
        go_enter Tryz.func150, Tryz.ntmps150
        go_wp2_with fail
        refine (present_there S hx h0).mono ?_
        rintro e w ⟨rfl, rfl⟩
        go_wp2_with fail
        refine hv.mono ?_
        rintro e w ⟨rfl, rfl⟩
        go_wp2_with fail
        refine (refuse_any M (by omega)).mono ?_
        rintro e w1 ⟨rfl, L1, N1, e1⟩
        go_wp2
        go_ret2
        exact ⟨rfl, L1, N1, e1⟩
  · rw [migrateG, presF_bad hu]
    go_enter Tryz.func150, Tryz.ntmps150
    go_wp2_with fail
    refine (present_bad hu).mono ?_
    rintro e w ⟨rfl, rfl⟩
    go_wp2_with fail
    refine (refuse_any M (by omega)).mono ?_
    rintro e w1 ⟨rfl, L1, N1, e1⟩
    go_wp2
    go_ret2
    exact ⟨rfl, L1, N1, e1⟩
set_option maxHeartbeats 2000000 in
theorem setBand_m {w : World} {B mb t k : Nat} {ν : Net} {τ : TSt} {σ : Sg} {L : LS} (M : Mach w B mb t k ν τ σ L) (hl : L.l.length < 999999000) (u g : Int) : Calls Tryz.prog 151 #[.pointer (some ⟨B, 0, none⟩), .int .i64 u, .int .i64 g] w fun e w' => TD (bandF σ.s u g) (tellT t (bandF σ.s u g) u (decide ((σ.s.tk u.toNat).band ≠ g))) w w' B mb t k ν τ σ L e := by
  obtain ⟨S, K⟩ := M.sch
  by_cases hu : 0 ≤ u ∧ u < 16
  · obtain ⟨x, rfl, hx⟩ : ∃ x : Nat, u = x ∧ x < 16 := ⟨u.toNat, by omega, by omega⟩
    have i0 : (0 : Int) ≤ x := by omega
    have i1 : (x : Int) < 16 := by omega
    clear hu
    by_cases h0 : (σ.s.tk x).st = 0
    · rw [bandF, presF_absent hx h0]
      go_enter Tryz.func151, Tryz.ntmps151
      go_wp2_with fail
      refine (present_absent S hx h0).mono ?_
      rintro e w ⟨rfl, rfl⟩
      go_wp2_with fail
      refine (refuse_any M (by omega)).mono ?_
      rintro e w1 ⟨rfl, L1, N1, e1⟩
      go_wp2
      go_ret2
      exact ⟨rfl, L1, N1, e1⟩
    · obtain ⟨t0, t1, t2, _, _⟩ := S.task hx
      obtain ⟨hh, bb, rr⟩ := K.row hx h0
      have hwb : IntKind.i64.wrap (σ.s.tk x).band = (σ.s.tk x).band := wrap_i64 (by have h1 := rr.eb; have h2 := rr.hb; omega)
      clear rr
      by_cases hg : 0 ≤ g ∧ g < 4
      · obtain ⟨y, rfl, hy⟩ : ∃ y : Nat, g = y ∧ y < 4 := ⟨g.toNat, by omega, by omega⟩
        have hv := validBand_any (y : Int) w
        rw [decide_eq_true hg] at hv
        clear hg
        by_cases hs : (σ.s.tk x).band = y
        · have hb : ((σ.s.tk x).band == (y : Int)) = true := by simp [hs]
          have HS := hideIt hs
          clear hs
          rw [bandF, presF_there hx h0, if_pos (by omega), if_pos HS.out]
          rw [show decide ((σ.s.tk ((x : Nat) : Int).toNat).band ≠ ((y : Nat) : Int)) = false from by rw [Int.toNat_natCast]; exact decide_eq_false (fun h => h HS.out)]
          go_enter Tryz.func151, Tryz.ntmps151
          go_wp2_with fail
          refine (present_there S hx h0).mono ?_
          rintro e w ⟨rfl, rfl⟩
          go_wp2_with fail
          refine hv.mono ?_
          rintro e w ⟨rfl, rfl⟩
          go_wp2
          go_ret2
          exact ⟨rfl, L, Done.refl M, (List.append_nil _).symm⟩
        · have hb : ((σ.s.tk x).band == (y : Int)) = false := by simpa using hs
          have HS := hideIt hs
          clear hs
          rw [show decide ((σ.s.tk ((x : Nat) : Int).toNat).band ≠ ((y : Nat) : Int)) = true from by rw [Int.toNat_natCast]; exact decide_eq_true HS.out]
          rw [bandF, presF_there hx h0, if_pos (by omega), if_neg HS.out, Int.toNat_natCast]
          go_enter Tryz.func151, Tryz.ntmps151
          go_wp2_with fail
          refine (present_there S hx h0).mono ?_
          rintro e w ⟨rfl, rfl⟩
          go_wp2_with fail
          refine hv.mono ?_
          rintro e w ⟨rfl, rfl⟩
          go_wp2_with fail
          refine (setBand_s S K hx h0 hy).mono ?_
          rintro e w1 ⟨rfl, S1, M1⟩
          have D1 := (Done.refl M).mut M1 (by omega) (M.sched M1 S1)
          go_wp2_with fail
          refine (changed_m D1.m (by omega) hx).mono ?_
          rintro e w2 ⟨rfl, L2, N2, e2⟩
          go_wp2
          go_ret2
          exact ⟨rfl, L2, D1.trans N2, e2⟩
      · have hv := validBand_any g w
        rw [decide_eq_false hg] at hv
        rw [bandF, presF_there hx h0, if_neg hg]
        go_enter Tryz.func151, Tryz.ntmps151
        go_wp2_with fail
        refine (present_there S hx h0).mono ?_
        rintro e w ⟨rfl, rfl⟩
        go_wp2_with fail
        refine hv.mono ?_
        rintro e w ⟨rfl, rfl⟩
        go_wp2_with fail
        refine (refuse_any M (by omega)).mono ?_
        rintro e w1 ⟨rfl, L1, N1, e1⟩
        go_wp2
        go_ret2
        exact ⟨rfl, L1, N1, e1⟩
  · rw [bandF, presF_bad hu]
    go_enter Tryz.func151, Tryz.ntmps151
    go_wp2_with fail
    refine (present_bad hu).mono ?_
    rintro e w ⟨rfl, rfl⟩
    go_wp2_with fail
    refine (refuse_any M (by omega)).mono ?_
    rintro e w1 ⟨rfl, L1, N1, e1⟩
    go_wp2
    go_ret2
    exact ⟨rfl, L1, N1, e1⟩
end W
end Go.Proofs.Qxb6500877aGreatDoor
