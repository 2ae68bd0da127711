import Derived.Test.Qxb6500877aGreatDoorSb
import Derived.Test.Qxb6500877aGreatDoorSc
set_option linter.unusedVariables false
set_option linter.unusedSimpArgs false
namespace Go.Proofs.Qxb6500877aGreatDoor
open Go.RowKit

/-- What a task's row says of where it is at home. -/
structure Row (s : Sched) (t h b : Nat) : Prop where
  ht : t < 16
  hh : h < 4
  hb : b < 4
  eh : (s.tk t).home = h
  eb : (s.tk t).band = b
/-- The links of a queued task. -/
structure DeqPre (s : Sched) (t h b : Nat) : Prop where
  prev : (s.tk t).prev = -1 ∨ ∃ p : Nat, p < 16 ∧ p ≠ t ∧ (s.tk t).prev = p ∧ s.hd h b ≠ -1
  next : (s.tk t).next = -1 ∨ ∃ n : Nat, n < 16 ∧ n ≠ t ∧ (s.tk t).next = n
  qn : 0 < s.qn h ∧ s.qn h < 1000
structure EnqPre (s : Sched) (t h b : Nat) : Prop where
  tl : s.tl h b = -1 ∨ ∃ u : Nat, u < 16 ∧ u ≠ t ∧ s.tl h b = u
  qn : 0 ≤ s.qn h ∧ s.qn h < 1000

def enq (s : Sched) (t h b : Nat) : Sched := if s.tl h b = -1 then enqNil s t h b else enqAt s t h b (s.tl h b).toNat
def deq (s : Sched) (t h b : Nat) : Sched :=
  if (s.tk t).prev = -1 then (if (s.tk t).next = -1 then deqA s t h b else deqB s t h b (s.tk t).next.toNat)
  else (if (s.tk t).next = -1 then deqC s t h b (s.tk t).prev.toNat else deqD s t h b (s.tk t).prev.toNat (s.tk t).next.toNat)
def standDown (s : Sched) (t h b : Nat) : Sched := if (s.tk t).st = 2 then deq s t h b else if (s.tk t).st = 3 then s.setCur h (-1) else s

theorem enqueue_any {w : World} {B : Nat} {s : Sched} {t h b : Nat} (H : SchedAt w B s) (r : Row s t h b) (p : EnqPre s t h b) :
    Calls Tryz.prog 176 #[.pointer (some ⟨B, 6596, none⟩), .int .i64 (t : Int)] w fun e w' => e = .returned (.tuple #[]) ∧ SchedAt w' B (enq s t h b) ∧ Mut B 6596 6724 w w' := by
  rcases p.tl with e | ⟨u, hu, hut, e⟩
  · rw [enq, if_pos e]; exact enqueue_nil H r.ht r.hh r.hb r.eh r.eb e p.qn
  · rw [enq, if_neg (by omega), e, Int.toNat_natCast]; exact enqueue_at H r.ht r.hh r.hb r.eh r.eb hu hut e p.qn
theorem dequeue_any {w : World} {B : Nat} {s : Sched} {t h b : Nat} (H : SchedAt w B s) (r : Row s t h b) (p : DeqPre s t h b) :
    Calls Tryz.prog 178 #[.pointer (some ⟨B, 6596, none⟩), .int .i64 (t : Int)] w fun e w' => e = .returned (.tuple #[]) ∧ SchedAt w' B (deq s t h b) ∧ Mut B 6596 6724 w w' := by
  rcases p.prev with e | ⟨u, hu, hut, e, ehd⟩
  · rcases p.next with f | ⟨n, hn, hnt, f⟩
    · rw [deq, if_pos e, if_pos f]; exact dequeue_A H r.ht r.hh r.hb r.eh r.eb e f p.qn
    · rw [deq, if_pos e, if_neg (by omega), f, Int.toNat_natCast]; exact dequeue_B H r.ht r.hh r.hb r.eh r.eb e hn hnt f p.qn
  · rcases p.next with f | ⟨n, hn, hnt, f⟩
    · rw [deq, if_neg (by omega), if_pos f, e, Int.toNat_natCast]; exact dequeue_C H r.ht r.hh r.hb r.eh r.eb hu hut e ehd f p.qn
    · rw [deq, if_neg (by omega), if_neg (by omega), e, f, Int.toNat_natCast, Int.toNat_natCast]; exact dequeue_D H r.ht r.hh r.hb r.eh r.eb hu hut e ehd hn hnt f p.qn

set_option maxHeartbeats 2000000 in
theorem standDown_any {w : World} {B : Nat} {s : Sched} {t h b : Nat} (H : SchedAt w B s) (r : Row s t h b) (p : (s.tk t).st = 2 → DeqPre s t h b) :
    Calls Tryz.prog 213 #[.pointer (some ⟨B, 6596, none⟩), .int .i64 (t : Int)] w fun e w' => e = .returned (.tuple #[]) ∧ SchedAt w' B (standDown s t h b) ∧ Mut B 6596 6724 w w' := by
  have ht := r.ht
  have hh := r.hh
  obtain ⟨t0, t1, t2, t3, t4⟩ := H.task ht
  obtain ⟨c0, _⟩ := H.core hh
  rw [r.eh] at t1
  have i0 : (0 : Int) ≤ t := by omega
  have i1 : (t : Int) < 16 := by omega
  have j0 : (0 : Int) ≤ h := by omega
  have j1 : (h : Int) < 4 := by omega
  have fz := H.frz
  clear t2 t3 t4
  by_cases h2 : (s.tk t).st = 2
  · rw [standDown, if_pos h2]
    rw [h2] at t0
    go_enter Tryz.func213, Tryz.ntmps213
    go_wp2_with fail
    refine (dequeue_any H r (p h2)).mono ?_
    rintro e w1 ⟨rfl, H1, M1⟩
    go_wp2
    go_end0
    exact ⟨rfl, H1, M1⟩
  · rw [standDown, if_neg h2]
    have b2 : ((s.tk t).st == 2) = false := by simpa using h2
    by_cases h3 : (s.tk t).st = 3
    · rw [if_pos h3]
      rw [h3] at t0
      have n0 : ¬ (6716 + h = 6596 + t * 5 + 1) := by omega
      have n1 : ¬ (6596 + t * 5 + 1 = 6716 + h) := by omega
      go_enter Tryz.func213, Tryz.ntmps213
      go_wp2
      go_region_held3 (fun w' => w'.cell? ⟨B, 6596 + t * 5 + 1, none⟩ = some (.int .i64 (h : Int))) (first | exact t1 | go_simp) (fail)
      go_wp2
      go_end0
      exact ⟨rfl, (H.putCur hh _).drew, ((Mut.refl B 6596 6724 _).setCell (by omega) (by omega) _).drew⟩
    · rw [if_neg h3]
      have b3 : ((s.tk t).st == 3) = false := by simpa using h3
      go_enter Tryz.func213, Tryz.ntmps213
      go_wp2
      go_end0
      exact ⟨rfl, H, Mut.refl _ _ _ _⟩

set_option maxHeartbeats 2000000 in
theorem park_any {w : World} {B : Nat} {s : Sched} {t h b : Nat} (H : SchedAt w B s) (r : Row s t h b) (p : (s.tk t).st = 2 → DeqPre s t h b) :
    Calls Tryz.prog 190 #[.pointer (some ⟨B, 6596, none⟩), .int .i64 (t : Int)] w fun e w' => e = .returned (.tuple #[]) ∧ SchedAt w' B ((standDown s t h b).pSt t 1) ∧ Mut B 6596 6724 w w' := by
  have ht := r.ht
  have i0 : (0 : Int) ≤ t := by omega
  have i1 : (t : Int) < 16 := by omega
  go_enter Tryz.func190, Tryz.ntmps190
  go_wp2_with fail
  refine (standDown_any H r p).mono ?_
  rintro e w1 ⟨rfl, H1, M1⟩
  obtain ⟨t0, _⟩ := H1.task ht
  have fz := H1.frz
  go_wp2
  go_end0
  exact ⟨rfl, H1.putSt ht _, M1.setCell (by omega) (by omega) _⟩

set_option maxHeartbeats 2000000 in
theorem yield_any {w : World} {B : Nat} {s : Sched} {t h b : Nat} (H : SchedAt w B s) (r : Row s t h b) (p : (s.tk t).st = 2 → DeqPre s t h b) (r1 : Row (standDown s t h b) t h b) (p1 : EnqPre (standDown s t h b) t h b) :
    Calls Tryz.prog 191 #[.pointer (some ⟨B, 6596, none⟩), .int .i64 (t : Int)] w fun e w' => e = .returned (.tuple #[]) ∧ SchedAt w' B (enq (standDown s t h b) t h b) ∧ Mut B 6596 6724 w w' := by
  go_enter Tryz.func191, Tryz.ntmps191
  go_wp2_with fail
  refine (standDown_any H r p).mono ?_
  rintro e w1 ⟨rfl, H1, M1⟩
  go_wp2_with fail
  refine (enqueue_any H1 r1 p1).mono ?_
  rintro e w2 ⟨rfl, H2, M2⟩
  go_wp2
  go_end0
  exact ⟨rfl, H2, M1.trans M2⟩

def setBandF (s : Sched) (t h b k : Nat) : Sched := if (s.tk t).st = 2 then enq ((deq s t h b).pBand t k) t h k else s.pBand t k

set_option maxHeartbeats 2000000 in
theorem setBand_any {w : World} {B : Nat} {s : Sched} {t h b k : Nat} (H : SchedAt w B s) (r : Row s t h b) (hk : k < 4) (p : (s.tk t).st = 2 → DeqPre s t h b ∧ Row ((deq s t h b).pBand t k) t h k ∧ EnqPre ((deq s t h b).pBand t k) t h k) :
    Calls Tryz.prog 194 #[.pointer (some ⟨B, 6596, none⟩), .int .i64 (t : Int), .int .i64 (k : Int)] w fun e w' => e = .returned (.tuple #[]) ∧ SchedAt w' B (setBandF s t h b k) ∧ Mut B 6596 6724 w w' := by
  have ht := r.ht
  obtain ⟨t0, t1, t2, t3, t4⟩ := H.task ht
  have i0 : (0 : Int) ≤ t := by omega
  have i1 : (t : Int) < 16 := by omega
  have fz := H.frz
  have hwk : IntKind.i8.wrap (k : Int) = k := wrap_i8 (by omega)
  clear t1 t3 t4
  by_cases h2 : (s.tk t).st = 2
  · rw [setBandF, if_pos h2]
    rw [h2] at t0
    obtain ⟨p0, r1, p1⟩ := p h2
    clear t2 fz
    go_enter Tryz.func194, Tryz.ntmps194
    go_wp2_with fail
    refine (dequeue_any H r p0).mono ?_
    rintro e w1 ⟨rfl, H1, M1⟩
    obtain ⟨_, _, u2, _, _⟩ := H1.task ht
    have fz := H1.frz
    go_wp2_with fail
    refine (enqueue_any (H1.putBand ht _) r1 p1).mono ?_
    rintro e w2 ⟨rfl, H2, M2⟩
    go_wp2
    go_end0
    exact ⟨rfl, H2, (M1.setCell (by omega) (by omega) _).trans M2⟩
  · rw [setBandF, if_neg h2]
    have b2 : ((s.tk t).st == 2) = false := by simpa using h2
    go_enter Tryz.func194, Tryz.ntmps194
    go_wp2
    (try simp only [Exit.inBlock, Exit.then])
    refine bodyPost_ret (results_none rfl _ _ _) rfl ?_
    exact ⟨rfl, H.putBand ht _, (Mut.refl B 6596 6724 _).setCell (by omega) (by omega) _⟩
end Go.Proofs.Qxb6500877aGreatDoor
