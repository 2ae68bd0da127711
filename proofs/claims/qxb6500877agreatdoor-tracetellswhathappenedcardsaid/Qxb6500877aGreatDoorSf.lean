import Derived.Test.Qxb6500877aGreatDoorSe
set_option linter.unusedVariables false
set_option linter.unusedSimpArgs false
namespace Go.Proofs.Qxb6500877aGreatDoor
open Go.RowKit

def tz4 (m : Int) : Nat := if m % 2 = 1 then 0 else if m % 4 = 2 then 1 else if m % 8 = 4 then 2 else 3

set_option maxRecDepth 20000 in
set_option maxHeartbeats 4000000 in
theorem tz8_any {m : Int} (hm : 0 < m ∧ m < 16) (w : World) : Calls Tryz.prog 204 #[.int .u8 m] w fun e w' => e = .returned (.int .i64 (tz4 m : Nat)) ∧ w' = w := by
  have hc : m = 1 ∨ m = 2 ∨ m = 3 ∨ m = 4 ∨ m = 5 ∨ m = 6 ∨ m = 7 ∨ m = 8 ∨ m = 9 ∨ m = 10 ∨ m = 11 ∨ m = 12 ∨ m = 13 ∨ m = 14 ∨ m = 15 := by omega
  rcases hc with rfl | rfl | rfl | rfl | rfl | rfl | rfl | rfl | rfl | rfl | rfl | rfl | rfl | rfl | rfl
  all_goals
    go_enter Tryz.func204, Tryz.ntmps204
    go_wp2
    go_ret
    refine ⟨?_, rfl⟩
    kernel_rfl

theorem tz4_lt (m : Int) : tz4 m < 4 := by unfold tz4; split <;> (try split) <;> (try split) <;> omega

set_option maxHeartbeats 2000000 in
theorem best_any {w : World} {B : Nat} {s : Sched} {c : Nat} (H : SchedAt w B s) (hc : c < 4) (hf : 0 < s.fl c ∧ s.fl c < 16) (hx : -1 ≤ s.hd c (tz4 (s.fl c)) ∧ s.hd c (tz4 (s.fl c)) < 16) :
    Calls Tryz.prog 177 #[.pointer (some ⟨B, 6596, none⟩), .int .i64 (c : Int)] w fun e w' => e = .returned (.int .i64 (s.hd c (tz4 (s.fl c)))) ∧ Below w.heap.size w w' := by
  obtain ⟨qk, q8, q9⟩ := H.queue hc
  have hk := tz4_lt (s.fl c)
  obtain ⟨qh, _⟩ := qk _ hk
  clear qk
  have i0 : (0 : Int) ≤ c := by omega
  have i1 : (c : Int) < 4 := by omega
  have hz := @tz8_any (s.fl c) hf
  generalize tz4 (s.fl c) = k at *
  have j0 : (0 : Int) ≤ k := by omega
  have j1 : (k : Int) < 4 := by omega
  have hw : IntKind.i64.wrap (s.hd c k) = s.hd c k := wrap_i64 (by omega)
  have hfb : (s.fl c == 0) = false := by
    have := hf.1
    simp <;> omega
  go_enter Tryz.func177, Tryz.ntmps177
  go_wp2
  go_region_held3 (fun w' => w'.cell? ⟨B, 6676 + c * 10 + 8, none⟩ = some (.int .u8 (s.fl c)) ∧ w'.cell? ⟨B, 6676 + c * 10 + k * 2, none⟩ = some (.int .i8 (s.hd c k))) (exact ⟨q8, qh⟩) (first | (go_at_call 204; refine (hz _).mono ?_; rintro e w1 ⟨rfl, rfl⟩))
  go_wp2
  go_ret
  exact ⟨rfl, (Below.refl _ _).drew⟩

set_option maxHeartbeats 4000000 in
theorem pick_any {w : World} {B : Nat} {s s1 : Sched} {c x k : Nat} (H : SchedAt w B s) (hc : c < 4)
    (hcur : s.cur c = -1 ∧ s1 = s ∨ ∃ p b : Nat, s.cur c = p ∧ Row (s.setCur c (-1)) p c b ∧ EnqPre (s.setCur c (-1)) p c b ∧ s1 = enq (s.setCur c (-1)) p c b)
    (hf : 0 < s1.fl c ∧ s1.fl c < 16) (hk : k = tz4 (s1.fl c)) (hx : s1.hd c k = x) (r : Row s1 x c k) (p : DeqPre s1 x c k) :
    Calls Tryz.prog 129 #[.pointer (some ⟨B, 6596, none⟩), .int .i64 (c : Int)] w fun e w' => e = .returned (.tuple #[.int .i64 (x : Int), .int .i64 (s.cur c)]) ∧ SchedAt w' B (((deq s1 x c k).pSt x 3).setCur c x) ∧ Mut B 6596 6724 w w' := by
  have hxl := r.ht
  obtain ⟨c0, _⟩ := H.core hc
  have hlt : B < w.heap.size := World.block_lt_of_cell? _ _ c0
  have i0 : (0 : Int) ≤ c := by omega
  have i1 : (c : Int) < 4 := by omega
  have j0 : (0 : Int) ≤ x := by omega
  have j1 : (x : Int) < 16 := by omega
  have hxx : -1 ≤ s1.hd c (tz4 (s1.fl c)) ∧ s1.hd c (tz4 (s1.fl c)) < 16 := by rw [← hk, hx]; omega
  have hr : s1.hd c (tz4 (s1.fl c)) = x := by rw [← hk, hx]
  have fz := H.frz
  rcases hcur with ⟨h1, rfl⟩ | ⟨q, b, h1, r0, p0, rfl⟩
  · rw [h1] at c0 ⊢
    go_enter Tryz.func129, Tryz.ntmps129
    go_wp2_with fail
    refine (best_any H hc hf hxx).mono ?_
    rintro e w1 ⟨rfl, hb1⟩
    rw [hr]
    have M1 : Mut B 6596 6724 w w1 := Mut.of_below hb1 hlt
    have H1 := H.mut (Mut.of_below (lo := 0) (hi := 0) hb1 hlt) (by omega)
    go_wp2_with fail
    refine (dequeue_any H1 r p).mono ?_
    rintro e w2 ⟨rfl, H2, M2⟩
    obtain ⟨x0, _⟩ := H2.task hxl
    obtain ⟨d0, _⟩ := H2.core hc
    clear fz c0
    have fz := H2.frz
    have n0 : ¬ (6716 + c = 6596 + x * 5) := by omega
    have n1 : ¬ (6596 + x * 5 = 6716 + c) := by omega
    go_wp2
    go_ret2
    exact ⟨rfl, (H2.putSt hxl _).putCur hc _, (((M1.trans M2).setCell (by omega) (by omega) _).setCell (by omega) (by omega) _)⟩
  · have hql := r0.ht
    have l0 : (0 : Int) ≤ q := by omega
    have l1 : (q : Int) < 16 := by omega
    have hqb : ((q : Int) == -1) = false := by simp <;> omega
    rw [h1] at c0 ⊢
    go_enter Tryz.func129, Tryz.ntmps129
    go_wp2_with fail
    refine (enqueue_any (H.putCur hc _) r0 p0).mono ?_
    rintro e w0 ⟨rfl, H0, M0⟩
    clear fz c0
    have M0' := ((Mut.refl B 6596 6724 w).setCell (o := 6716 + c) (by omega) (by omega) (.int .i64 (-1))).trans M0
    go_wp2_with fail
    refine (best_any H0 hc hf hxx).mono ?_
    rintro e w1 ⟨rfl, hb1⟩
    rw [hr]
    have hlt0 : B < w0.heap.size := Nat.lt_of_lt_of_le hlt M0'.size
    have M1 : Mut B 6596 6724 w w1 := M0'.trans (Mut.of_below hb1 hlt0)
    have H1 := H0.mut (Mut.of_below (lo := 0) (hi := 0) hb1 hlt0) (by omega)
    go_wp2_with fail
    refine (dequeue_any H1 r p).mono ?_
    rintro e w2 ⟨rfl, H2, M2⟩
    obtain ⟨x0, _⟩ := H2.task hxl
    obtain ⟨d0, _⟩ := H2.core hc
    have fz := H2.frz
    have n0 : ¬ (6716 + c = 6596 + x * 5) := by omega
    have n1 : ¬ (6596 + x * 5 = 6716 + c) := by omega
    go_wp2
    go_ret2
    exact ⟨rfl, (H2.putSt hxl _).putCur hc _, (((M1.trans M2).setCell (by omega) (by omega) _).setCell (by omega) (by omega) _)⟩
end Go.Proofs.Qxb6500877aGreatDoor
