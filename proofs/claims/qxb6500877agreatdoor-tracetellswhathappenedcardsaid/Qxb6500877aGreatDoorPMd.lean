import Derived.Test.Qxb6500877aGreatDoorPMc
set_option linter.unusedVariables false
set_option linter.unusedSimpArgs false
namespace Go.Proofs.Qxb6500877aGreatDoor
open Go.RowKit



def attK (s : Sched) (x g : Nat) (b : Int) : TRes := if 0 ≤ b ∧ b < 4 then ⟨g, 0, attachF s x g b.toNat⟩ else ⟨-1, 6, s⟩
def attNew (s : Sched) (u : Int) (K : Nat → TRes) : TRes := if 0 ≤ u ∧ u < 16 then (if (s.tk u.toNat).st = 0 then K u.toNat else ⟨-1, 11, s⟩) else ⟨-1, 5, s⟩
/-- An attach anywhere, and one at a core. -/
def attAnyF (s : Sched) (u b : Int) : TRes := attNew s u fun x => attK s x (lightF s.ld 3) b
def attAtF (s : Sched) (u h b : Int) : TRes := attNew s u fun x => if 0 ≤ h ∧ h < 4 then attK s x h.toNat b else ⟨-1, 4, s⟩
theorem attNew_bad {s : Sched} {u : Int} {K : Nat → TRes} (hu : ¬ (0 ≤ u ∧ u < 16)) : attNew s u K = ⟨-1, 5, s⟩ := if_neg hu
theorem attNew_old {s : Sched} {x : Nat} {K : Nat → TRes} (hx : x < 16) (h : (s.tk x).st ≠ 0) : attNew s (x : Int) K = ⟨-1, 11, s⟩ := by
  rw [attNew, if_pos (by omega), Int.toNat_natCast, if_neg h]
theorem attNew_new {s : Sched} {x : Nat} {K : Nat → TRes} (hx : x < 16) (h : (s.tk x).st = 0) : attNew s (x : Int) K = K x := by
  rw [attNew, if_pos (by omega), Int.toNat_natCast, if_pos h]
theorem attK_ok {s : Sched} {x g z : Nat} (hz : z < 4) : attK s x g (z : Int) = ⟨g, 0, attachF s x g z⟩ := by
  rw [attK, if_pos (by omega), Int.toNat_natCast]
theorem attK_bad {s : Sched} {x g : Nat} {b : Int} (hz : ¬ (0 ≤ b ∧ b < 4)) : attK s x g b = ⟨-1, 6, s⟩ := if_neg hz
set_option maxHeartbeats 4000000 in
theorem attach_any_m {w : World} {B mb t k : Nat} {ν : Net} {τ : TSt} {σ : Sg} (M : Mach w B mb t k ν τ σ) (u h b : Int) : Calls Tryz.prog 186 #[.pointer (some ⟨B, 0, none⟩), .int .i64 u, .int .i64 h, .bool true, .int .i64 b] w fun e w' => TD (attAnyF σ.s u b) w w' B mb t k ν τ σ e := by
  obtain ⟨S, K⟩ := M.sch
  by_cases hu : 0 ≤ u ∧ u < 16
  · obtain ⟨x, rfl, hx⟩ : ∃ x : Nat, u = x ∧ x < 16 := ⟨u.toNat, by omega, by omega⟩
    have hvt := validTask_any (x : Int) w
    rw [decide_eq_true hu] at hvt
    obtain ⟨i0, i1⟩ := hu
    obtain ⟨t0, t1, t2, _, _⟩ := S.task hx
    by_cases h0 : (σ.s.tk x).st = 0
    · have hb0 : ((σ.s.tk x).st != 0) = false := by simp [h0]
      have H0 := hideIt h0
      clear h0
      by_cases hz : 0 ≤ b ∧ b < 4
      · obtain ⟨z, rfl, hz2⟩ : ∃ z : Nat, b = z ∧ z < 4 := ⟨b.toNat, by omega, by omega⟩
        have hvb := validBand_any (z : Int) w
        rw [decide_eq_true (by omega)] at hvb
        rw [attAnyF, attNew_new hx H0.out, attK_ok hz2]
        go_enter Tryz.func186, Tryz.ntmps186
        go_wp2_with fail
        refine hvt.mono ?_
        rintro e w ⟨rfl, rfl⟩
        go_wp2_with fail
        refine hvb.mono ?_
        rintro e w ⟨rfl, rfl⟩
        go_wp2_with fail
        refine (lightest_any S).mono ?_
        rintro e wl ⟨rfl, hl⟩
        have DL : Done w wl B mb t k ν τ σ := (Done.refl M).below hl
        have hlt : lightF σ.s.ld 3 < 4 := by have := lightF_le σ.s.ld 3; omega
        have SL : SchedAt wl B σ.s := S.mut (Mut.of_below (lo := 0) (hi := 0) hl M.lt) (by omega)
        go_wp2_with fail
        refine (attach_s SL K hx H0.out hlt hz2).mono ?_
        rintro e w1 ⟨rfl, S1, M1⟩
        have D1 := DL.mut M1 (by omega) (DL.m.sched M1 S1)
        go_wp2_with fail
        refine (noteTask_any D1.m.snk).mono ?_
        rintro e w1 ⟨rfl, rfl⟩
        go_wp2
        go_ret2
        exact ⟨rfl, D1⟩
      · have hvb := validBand_any b w
        rw [decide_eq_false hz] at hvb
        rw [attAnyF, attNew_new hx H0.out, attK_bad hz]
        go_enter Tryz.func186, Tryz.ntmps186
        go_wp2_with fail
        refine hvt.mono ?_
        rintro e w ⟨rfl, rfl⟩
        go_wp2_with fail
        refine hvb.mono ?_
        rintro e w ⟨rfl, rfl⟩
        go_wp2_with fail
        refine (refuse_any M.snk).mono ?_
        rintro e w1 ⟨rfl, rfl⟩
        go_wp2
        go_ret2
        exact ⟨rfl, Done.refl M⟩
    · have hb0 : ((σ.s.tk x).st != 0) = true := by simpa using h0
      rw [attAnyF, attNew_old hx h0]
      go_enter Tryz.func186, Tryz.ntmps186
      go_wp2_with fail
      refine hvt.mono ?_
      rintro e w ⟨rfl, rfl⟩
      go_wp2_with fail
      refine (refuse_any M.snk).mono ?_
      rintro e w1 ⟨rfl, rfl⟩
      go_wp2
      go_ret2
      exact ⟨rfl, Done.refl M⟩
  · have hvt := validTask_any u w
    rw [decide_eq_false hu] at hvt
    rw [attAnyF, attNew_bad hu]
    go_enter Tryz.func186, Tryz.ntmps186
    go_wp2_with fail
    refine hvt.mono ?_
    rintro e w ⟨rfl, rfl⟩
    go_wp2_with fail
    refine (refuse_any M.snk).mono ?_
    rintro e w1 ⟨rfl, rfl⟩
    go_wp2
    go_ret2
    exact ⟨rfl, Done.refl M⟩

set_option maxHeartbeats 4000000 in
theorem attach_at_m {w : World} {B mb t k : Nat} {ν : Net} {τ : TSt} {σ : Sg} (M : Mach w B mb t k ν τ σ) (u h b : Int) : Calls Tryz.prog 186 #[.pointer (some ⟨B, 0, none⟩), .int .i64 u, .int .i64 h, .bool false, .int .i64 b] w fun e w' => TD (attAtF σ.s u h b) w w' B mb t k ν τ σ e := by
  obtain ⟨S, K⟩ := M.sch
  by_cases hu : 0 ≤ u ∧ u < 16
  · obtain ⟨x, rfl, hx⟩ : ∃ x : Nat, u = x ∧ x < 16 := ⟨u.toNat, by omega, by omega⟩
    have hvt := validTask_any (x : Int) w
    rw [decide_eq_true hu] at hvt
    obtain ⟨i0, i1⟩ := hu
    obtain ⟨t0, t1, t2, _, _⟩ := S.task hx
    by_cases h0 : (σ.s.tk x).st = 0
    · have hb0 : ((σ.s.tk x).st != 0) = false := by simp [h0]
      have H0 := hideIt h0
      clear h0
      by_cases hc : 0 ≤ h ∧ h < 4
      · obtain ⟨y, rfl, hy⟩ : ∃ y : Nat, h = y ∧ y < 4 := ⟨h.toNat, by omega, by omega⟩
        have hvc := validCore_any (y : Int) w
        rw [decide_eq_true hc] at hvc
        clear hc
        by_cases hz : 0 ≤ b ∧ b < 4
        · obtain ⟨z, rfl, hz2⟩ : ∃ z : Nat, b = z ∧ z < 4 := ⟨b.toNat, by omega, by omega⟩
          have hvb := validBand_any (z : Int) w
          rw [decide_eq_true (by omega)] at hvb
          rw [attAtF, attNew_new hx H0.out, if_pos (by omega), Int.toNat_natCast, attK_ok hz2]
          go_enter Tryz.func186, Tryz.ntmps186
          go_wp2_with fail
          refine hvt.mono ?_
          rintro e w ⟨rfl, rfl⟩
          go_wp2_with fail
          refine hvc.mono ?_
          rintro e w ⟨rfl, rfl⟩
          go_wp2_with fail
          refine hvb.mono ?_
          rintro e w ⟨rfl, rfl⟩
          go_wp2_with fail
          refine (attach_s S K hx H0.out hy hz2).mono ?_
          rintro e w1 ⟨rfl, S1, M1⟩
          have D1 := (Done.refl M).mut M1 (by omega) ((Done.refl M).m.sched M1 S1)
          go_wp2_with fail
          refine (noteTask_any D1.m.snk).mono ?_
          rintro e w1 ⟨rfl, rfl⟩
          go_wp2
          go_ret2
          exact ⟨rfl, D1⟩
        · have hvb := validBand_any b w
          rw [decide_eq_false hz] at hvb
          rw [attAtF, attNew_new hx H0.out, if_pos (by omega), attK_bad hz]
          go_enter Tryz.func186, Tryz.ntmps186
          go_wp2_with fail
          refine hvt.mono ?_
          rintro e w ⟨rfl, rfl⟩
          go_wp2_with fail
          refine hvc.mono ?_
          rintro e w ⟨rfl, rfl⟩
          go_wp2_with fail
          refine hvb.mono ?_
          rintro e w ⟨rfl, rfl⟩
          go_wp2_with fail
          refine (refuse_any M.snk).mono ?_
          rintro e w1 ⟨rfl, rfl⟩
          go_wp2
          go_ret2
          exact ⟨rfl, Done.refl M⟩
      · have hvc := validCore_any h w
        rw [decide_eq_false hc] at hvc
        rw [attAtF, attNew_new hx H0.out, if_neg hc]
        go_enter Tryz.func186, Tryz.ntmps186
        go_wp2_with fail
        refine hvt.mono ?_
        rintro e w ⟨rfl, rfl⟩
        go_wp2_with fail
        refine hvc.mono ?_
        rintro e w ⟨rfl, rfl⟩
        go_wp2_with fail
        refine (refuse_any M.snk).mono ?_
        rintro e w1 ⟨rfl, rfl⟩
        go_wp2
        go_ret2
        exact ⟨rfl, Done.refl M⟩
    · have hb0 : ((σ.s.tk x).st != 0) = true := by simpa using h0
      rw [attAtF, attNew_old hx h0]
      go_enter Tryz.func186, Tryz.ntmps186
      go_wp2_with fail
      refine hvt.mono ?_
      rintro e w ⟨rfl, rfl⟩
      go_wp2_with fail
      refine (refuse_any M.snk).mono ?_
      rintro e w1 ⟨rfl, rfl⟩
      go_wp2
      go_ret2
      exact ⟨rfl, Done.refl M⟩
  · have hvt := validTask_any u w
    rw [decide_eq_false hu] at hvt
    rw [attAtF, attNew_bad hu]
    go_enter Tryz.func186, Tryz.ntmps186
    go_wp2_with fail
    refine hvt.mono ?_
    rintro e w ⟨rfl, rfl⟩
    go_wp2_with fail
    refine (refuse_any M.snk).mono ?_
    rintro e w1 ⟨rfl, rfl⟩
    go_wp2
    go_ret2
    exact ⟨rfl, Done.refl M⟩

set_option maxHeartbeats 1000000 in
theorem attachAnywhere_m {w : World} {B mb t k : Nat} {ν : Net} {τ : TSt} {σ : Sg} (M : Mach w B mb t k ν τ σ) (u b : Int) : Calls Tryz.prog 143 #[.pointer (some ⟨B, 0, none⟩), .int .i64 u, .int .i64 b] w fun e w' => TD (attAnyF σ.s u b) w w' B mb t k ν τ σ e := by
  go_enter Tryz.func143, Tryz.ntmps143
  go_wp2_with fail
  refine (attach_any_m M u (-1) b).mono ?_
  rintro e w1 ⟨rfl, D⟩
  go_wp2
  go_ret2
  exact ⟨rfl, D⟩
set_option maxHeartbeats 1000000 in
theorem attach_m {w : World} {B mb t k : Nat} {ν : Net} {τ : TSt} {σ : Sg} (M : Mach w B mb t k ν τ σ) (u h b : Int) : Calls Tryz.prog 145 #[.pointer (some ⟨B, 0, none⟩), .int .i64 u, .int .i64 h, .int .i64 b] w fun e w' => TD (attAtF σ.s u h b) w w' B mb t k ν τ σ e := by
  go_enter Tryz.func145, Tryz.ntmps145
  go_wp2_with fail
  refine (attach_at_m M u h b).mono ?_
  rintro e w1 ⟨rfl, D⟩
  go_wp2
  go_ret2
  exact ⟨rfl, D⟩

end Go.Proofs.Qxb6500877aGreatDoor
