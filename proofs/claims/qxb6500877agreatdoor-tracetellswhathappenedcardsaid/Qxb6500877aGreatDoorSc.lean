import Derived.Test.Qxb6500877aGreatDoorSb0
set_option linter.unusedVariables false
set_option linter.unusedSimpArgs false
namespace Go.Proofs.Qxb6500877aGreatDoor
open Go.RowKit

set_option maxHeartbeats 4000000 in
theorem dequeue_C {w : World} {B : Nat} {s : Sched} {t h b p : Nat} (H : SchedAt w B s) (ht : t < 16) (hh : h < 4) (hb : b < 4) (eh : (s.tk t).home = h) (eb : (s.tk t).band = b) (hp : p < 16) (hpt : p ≠ t) (ep : (s.tk t).prev = p) (ehd : s.hd h b ≠ -1) (en : (s.tk t).next = -1) (hq : 0 < s.qn h ∧ s.qn h < 1000) :
    Calls Tryz.prog 178 #[.pointer (some ⟨B, 6596, none⟩), .int .i64 (t : Int)] w fun e w' => e = .returned (.tuple #[]) ∧ SchedAt w' B (deqC s t h b p) ∧ Mut B 6596 6724 w w' := by
  obtain ⟨t0, t1, t2, t3, t4⟩ := H.task ht
  obtain ⟨qk, q8, q9⟩ := H.queue hh
  obtain ⟨qh, qt⟩ := qk b hb
  clear qk t0
  rw [eh] at t1
  rw [eb] at t2
  rw [ep] at t3
  rw [en] at t4
  have i0 : (0 : Int) ≤ t := by omega
  have i1 : (t : Int) < 16 := by omega
  have j0 : (0 : Int) ≤ h := by omega
  have j1 : (h : Int) < 4 := by omega
  have k0 : (0 : Int) ≤ b := by omega
  have k1 : (b : Int) < 4 := by omega
  have fz := H.frz
  have l0 : (0 : Int) ≤ p := by omega
  have l1 : (p : Int) < 16 := by omega
  obtain ⟨_, _, _, _, p4⟩ := H.task hp
  have hpb : ((p : Int) == -1) = false := by simp <;> omega
  have hxb : (s.hd h b == -1) = false := by simpa using ehd
  have n0 : ¬ (6596 + p * 5 + 4 = 6596 + t * 5 + 2) := by omega
  have n1 : ¬ (6596 + t * 5 + 2 = 6596 + p * 5 + 4) := by omega
  have n2 : ¬ (6596 + p * 5 + 4 = 6596 + t * 5 + 3) := by omega
  have n3 : ¬ (6596 + t * 5 + 3 = 6596 + p * 5 + 4) := by omega
  have n4 : ¬ (6596 + p * 5 + 4 = 6596 + t * 5 + 4) := by omega
  have n5 : ¬ (6596 + t * 5 + 4 = 6596 + p * 5 + 4) := by omega
  have n6 : ¬ (6596 + p * 5 + 4 = 6676 + h * 10 + b * 2) := by omega
  have n7 : ¬ (6676 + h * 10 + b * 2 = 6596 + p * 5 + 4) := by omega
  have n8 : ¬ (6596 + p * 5 + 4 = 6676 + h * 10 + 8) := by omega
  have n9 : ¬ (6676 + h * 10 + 8 = 6596 + p * 5 + 4) := by omega
  have n10 : ¬ (6596 + p * 5 + 4 = 6676 + h * 10 + 9) := by omega
  have n11 : ¬ (6676 + h * 10 + 9 = 6596 + p * 5 + 4) := by omega
  have n12 : ¬ (6596 + p * 5 + 4 = 6676 + h * 10 + b * 2 + 1) := by omega
  have n13 : ¬ (6676 + h * 10 + b * 2 + 1 = 6596 + p * 5 + 4) := by omega
  have n14 : ¬ (6676 + h * 10 + b * 2 + 1 = 6596 + t * 5 + 2) := by omega
  have n15 : ¬ (6596 + t * 5 + 2 = 6676 + h * 10 + b * 2 + 1) := by omega
  have n16 : ¬ (6676 + h * 10 + b * 2 + 1 = 6596 + t * 5 + 3) := by omega
  have n17 : ¬ (6596 + t * 5 + 3 = 6676 + h * 10 + b * 2 + 1) := by omega
  have n18 : ¬ (6676 + h * 10 + b * 2 + 1 = 6596 + t * 5 + 4) := by omega
  have n19 : ¬ (6596 + t * 5 + 4 = 6676 + h * 10 + b * 2 + 1) := by omega
  have n20 : ¬ (6676 + h * 10 + b * 2 + 1 = 6676 + h * 10 + b * 2) := by omega
  have n21 : ¬ (6676 + h * 10 + b * 2 = 6676 + h * 10 + b * 2 + 1) := by omega
  have n22 : ¬ (6676 + h * 10 + b * 2 + 1 = 6676 + h * 10 + 8) := by omega
  have n23 : ¬ (6676 + h * 10 + 8 = 6676 + h * 10 + b * 2 + 1) := by omega
  have n24 : ¬ (6676 + h * 10 + b * 2 + 1 = 6676 + h * 10 + 9) := by omega
  have n25 : ¬ (6676 + h * 10 + 9 = 6676 + h * 10 + b * 2 + 1) := by omega
  have n26 : ¬ (6596 + t * 5 + 3 = 6596 + t * 5 + 2) := by omega
  have n27 : ¬ (6596 + t * 5 + 2 = 6596 + t * 5 + 3) := by omega
  have n28 : ¬ (6596 + t * 5 + 3 = 6596 + t * 5 + 4) := by omega
  have n29 : ¬ (6596 + t * 5 + 4 = 6596 + t * 5 + 3) := by omega
  have n30 : ¬ (6596 + t * 5 + 3 = 6676 + h * 10 + b * 2) := by omega
  have n31 : ¬ (6676 + h * 10 + b * 2 = 6596 + t * 5 + 3) := by omega
  have n32 : ¬ (6596 + t * 5 + 3 = 6676 + h * 10 + 8) := by omega
  have n33 : ¬ (6676 + h * 10 + 8 = 6596 + t * 5 + 3) := by omega
  have n34 : ¬ (6596 + t * 5 + 3 = 6676 + h * 10 + 9) := by omega
  have n35 : ¬ (6676 + h * 10 + 9 = 6596 + t * 5 + 3) := by omega
  have n36 : ¬ (6596 + t * 5 + 4 = 6596 + t * 5 + 2) := by omega
  have n37 : ¬ (6596 + t * 5 + 2 = 6596 + t * 5 + 4) := by omega
  have n38 : ¬ (6596 + t * 5 + 4 = 6676 + h * 10 + b * 2) := by omega
  have n39 : ¬ (6676 + h * 10 + b * 2 = 6596 + t * 5 + 4) := by omega
  have n40 : ¬ (6596 + t * 5 + 4 = 6676 + h * 10 + 8) := by omega
  have n41 : ¬ (6676 + h * 10 + 8 = 6596 + t * 5 + 4) := by omega
  have n42 : ¬ (6596 + t * 5 + 4 = 6676 + h * 10 + 9) := by omega
  have n43 : ¬ (6676 + h * 10 + 9 = 6596 + t * 5 + 4) := by omega
  have n44 : ¬ (6676 + h * 10 + 9 = 6596 + t * 5 + 2) := by omega
  have n45 : ¬ (6596 + t * 5 + 2 = 6676 + h * 10 + 9) := by omega
  have n46 : ¬ (6676 + h * 10 + 9 = 6676 + h * 10 + b * 2) := by omega
  have n47 : ¬ (6676 + h * 10 + b * 2 = 6676 + h * 10 + 9) := by omega
  have n48 : ¬ (6676 + h * 10 + 9 = 6676 + h * 10 + 8) := by omega
  have n49 : ¬ (6676 + h * 10 + 8 = 6676 + h * 10 + 9) := by omega
  go_enter Tryz.func178, Tryz.ntmps178
  go_wp2
  go_region_held3 (fun w' => w'.cell? ⟨B, 6596 + t * 5 + 1, none⟩ = some (.int .i64 (h : Int))) (exact t1) (fail)
  go_wp2
  go_region_held3 (fun w' => w'.cell? ⟨B, 6596 + t * 5 + 2, none⟩ = some (.int .i8 (b : Int))) (exact t2) (fail)
  go_wp2
  go_region_held3 (fun w' => w'.cell? ⟨B, 6596 + t * 5 + 3, none⟩ = some (.int .i8 (p : Int)) ∧ w'.cell? ⟨B, 6596 + t * 5 + 4, none⟩ = some (.int .i8 (-1))) (refine ⟨?_, ?_⟩ <;> go_simp) (fail)
  go_wp2
  go_end0
  exact ⟨rfl, (((((H.putNext hp _).putTl hh hb _).putPrev ht _).putNext ht _).putQn hh _).drew.drew.drew, ((((((Mut.refl B 6596 6724 _).setCell (by omega) (by omega) _).setCell (by omega) (by omega) _).setCell (by omega) (by omega) _).setCell (by omega) (by omega) _).setCell (by omega) (by omega) _).drew.drew.drew⟩

set_option maxHeartbeats 4000000 in
theorem dequeue_D {w : World} {B : Nat} {s : Sched} {t h b p n : Nat} (H : SchedAt w B s) (ht : t < 16) (hh : h < 4) (hb : b < 4) (eh : (s.tk t).home = h) (eb : (s.tk t).band = b) (hp : p < 16) (hpt : p ≠ t) (ep : (s.tk t).prev = p) (ehd : s.hd h b ≠ -1) (hn : n < 16) (hnt : n ≠ t) (en : (s.tk t).next = n) (hq : 0 < s.qn h ∧ s.qn h < 1000) :
    Calls Tryz.prog 178 #[.pointer (some ⟨B, 6596, none⟩), .int .i64 (t : Int)] w fun e w' => e = .returned (.tuple #[]) ∧ SchedAt w' B (deqD s t h b p n) ∧ Mut B 6596 6724 w w' := by
  obtain ⟨t0, t1, t2, t3, t4⟩ := H.task ht
  obtain ⟨qk, q8, q9⟩ := H.queue hh
  obtain ⟨qh, qt⟩ := qk b hb
  clear qk t0
  rw [eh] at t1
  rw [eb] at t2
  rw [ep] at t3
  rw [en] at t4
  have i0 : (0 : Int) ≤ t := by omega
  have i1 : (t : Int) < 16 := by omega
  have j0 : (0 : Int) ≤ h := by omega
  have j1 : (h : Int) < 4 := by omega
  have k0 : (0 : Int) ≤ b := by omega
  have k1 : (b : Int) < 4 := by omega
  have fz := H.frz
  have l0 : (0 : Int) ≤ p := by omega
  have l1 : (p : Int) < 16 := by omega
  obtain ⟨_, _, _, _, p4⟩ := H.task hp
  have hpb : ((p : Int) == -1) = false := by simp <;> omega
  have hxb : (s.hd h b == -1) = false := by simpa using ehd
  have m0 : (0 : Int) ≤ n := by omega
  have m1 : (n : Int) < 16 := by omega
  obtain ⟨_, _, _, n3, _⟩ := H.task hn
  have hnb : ((n : Int) == -1) = false := by simp <;> omega
  have n0 : ¬ (6596 + p * 5 + 4 = 6596 + t * 5 + 2) := by omega
  have n1 : ¬ (6596 + t * 5 + 2 = 6596 + p * 5 + 4) := by omega
  have n2 : ¬ (6596 + p * 5 + 4 = 6596 + t * 5 + 3) := by omega
  have n3 : ¬ (6596 + t * 5 + 3 = 6596 + p * 5 + 4) := by omega
  have n4 : ¬ (6596 + p * 5 + 4 = 6596 + t * 5 + 4) := by omega
  have n5 : ¬ (6596 + t * 5 + 4 = 6596 + p * 5 + 4) := by omega
  have n6 : ¬ (6596 + p * 5 + 4 = 6676 + h * 10 + b * 2) := by omega
  have n7 : ¬ (6676 + h * 10 + b * 2 = 6596 + p * 5 + 4) := by omega
  have n8 : ¬ (6596 + p * 5 + 4 = 6676 + h * 10 + 8) := by omega
  have n9 : ¬ (6676 + h * 10 + 8 = 6596 + p * 5 + 4) := by omega
  have n10 : ¬ (6596 + p * 5 + 4 = 6676 + h * 10 + 9) := by omega
  have n11 : ¬ (6676 + h * 10 + 9 = 6596 + p * 5 + 4) := by omega
  have n12 : ¬ (6596 + p * 5 + 4 = 6596 + n * 5 + 3) := by omega
  have n13 : ¬ (6596 + n * 5 + 3 = 6596 + p * 5 + 4) := by omega
  have n14 : ¬ (6596 + n * 5 + 3 = 6596 + t * 5 + 2) := by omega
  have n15 : ¬ (6596 + t * 5 + 2 = 6596 + n * 5 + 3) := by omega
  have n16 : ¬ (6596 + n * 5 + 3 = 6596 + t * 5 + 3) := by omega
  have n17 : ¬ (6596 + t * 5 + 3 = 6596 + n * 5 + 3) := by omega
  have n18 : ¬ (6596 + n * 5 + 3 = 6596 + t * 5 + 4) := by omega
  have n19 : ¬ (6596 + t * 5 + 4 = 6596 + n * 5 + 3) := by omega
  have n20 : ¬ (6596 + n * 5 + 3 = 6676 + h * 10 + b * 2) := by omega
  have n21 : ¬ (6676 + h * 10 + b * 2 = 6596 + n * 5 + 3) := by omega
  have n22 : ¬ (6596 + n * 5 + 3 = 6676 + h * 10 + 8) := by omega
  have n23 : ¬ (6676 + h * 10 + 8 = 6596 + n * 5 + 3) := by omega
  have n24 : ¬ (6596 + n * 5 + 3 = 6676 + h * 10 + 9) := by omega
  have n25 : ¬ (6676 + h * 10 + 9 = 6596 + n * 5 + 3) := by omega
  have n26 : ¬ (6596 + t * 5 + 3 = 6596 + t * 5 + 2) := by omega
  have n27 : ¬ (6596 + t * 5 + 2 = 6596 + t * 5 + 3) := by omega
  have n28 : ¬ (6596 + t * 5 + 3 = 6596 + t * 5 + 4) := by omega
  have n29 : ¬ (6596 + t * 5 + 4 = 6596 + t * 5 + 3) := by omega
  have n30 : ¬ (6596 + t * 5 + 3 = 6676 + h * 10 + b * 2) := by omega
  have n31 : ¬ (6676 + h * 10 + b * 2 = 6596 + t * 5 + 3) := by omega
  have n32 : ¬ (6596 + t * 5 + 3 = 6676 + h * 10 + 8) := by omega
  have n33 : ¬ (6676 + h * 10 + 8 = 6596 + t * 5 + 3) := by omega
  have n34 : ¬ (6596 + t * 5 + 3 = 6676 + h * 10 + 9) := by omega
  have n35 : ¬ (6676 + h * 10 + 9 = 6596 + t * 5 + 3) := by omega
  have n36 : ¬ (6596 + t * 5 + 4 = 6596 + t * 5 + 2) := by omega
  have n37 : ¬ (6596 + t * 5 + 2 = 6596 + t * 5 + 4) := by omega
  have n38 : ¬ (6596 + t * 5 + 4 = 6676 + h * 10 + b * 2) := by omega
  have n39 : ¬ (6676 + h * 10 + b * 2 = 6596 + t * 5 + 4) := by omega
  have n40 : ¬ (6596 + t * 5 + 4 = 6676 + h * 10 + 8) := by omega
  have n41 : ¬ (6676 + h * 10 + 8 = 6596 + t * 5 + 4) := by omega
  have n42 : ¬ (6596 + t * 5 + 4 = 6676 + h * 10 + 9) := by omega
  have n43 : ¬ (6676 + h * 10 + 9 = 6596 + t * 5 + 4) := by omega
  have n44 : ¬ (6676 + h * 10 + 9 = 6596 + t * 5 + 2) := by omega
  have n45 : ¬ (6596 + t * 5 + 2 = 6676 + h * 10 + 9) := by omega
  have n46 : ¬ (6676 + h * 10 + 9 = 6676 + h * 10 + b * 2) := by omega
  have n47 : ¬ (6676 + h * 10 + b * 2 = 6676 + h * 10 + 9) := by omega
  have n48 : ¬ (6676 + h * 10 + 9 = 6676 + h * 10 + 8) := by omega
  have n49 : ¬ (6676 + h * 10 + 8 = 6676 + h * 10 + 9) := by omega
  go_enter Tryz.func178, Tryz.ntmps178
  go_wp2
  go_region_held3 (fun w' => w'.cell? ⟨B, 6596 + t * 5 + 1, none⟩ = some (.int .i64 (h : Int))) (exact t1) (fail)
  go_wp2
  go_region_held3 (fun w' => w'.cell? ⟨B, 6596 + t * 5 + 2, none⟩ = some (.int .i8 (b : Int))) (exact t2) (fail)
  go_wp2
  go_region_held3 (fun w' => w'.cell? ⟨B, 6596 + t * 5 + 3, none⟩ = some (.int .i8 (p : Int)) ∧ w'.cell? ⟨B, 6596 + t * 5 + 4, none⟩ = some (.int .i8 (n : Int))) (refine ⟨?_, ?_⟩ <;> go_simp) (fail)
  go_wp2
  go_region_held3 (fun w' => w'.cell? ⟨B, 6596 + t * 5 + 3, none⟩ = some (.int .i8 (p : Int)) ∧ w'.cell? ⟨B, 6596 + t * 5 + 4, none⟩ = some (.int .i8 (n : Int))) (refine ⟨?_, ?_⟩ <;> go_simp) (fail)
  go_wp2
  go_end0
  exact ⟨rfl, (((((H.putNext hp _).putPrev hn _).putPrev ht _).putNext ht _).putQn hh _).drew.drew.drew.drew, ((((((Mut.refl B 6596 6724 _).setCell (by omega) (by omega) _).setCell (by omega) (by omega) _).setCell (by omega) (by omega) _).setCell (by omega) (by omega) _).setCell (by omega) (by omega) _).drew.drew.drew.drew⟩

end Go.Proofs.Qxb6500877aGreatDoor
