import Derived.Test.Qxb6500877aGreatDoorWf0
set_option linter.unusedVariables false
set_option linter.unusedSimpArgs false
namespace Go.Proofs.Qxb6500877aGreatDoor
open Go.RowKit

set_option maxHeartbeats 4000000 in
theorem unlink_due_D {w : World} {B : Nat} {s : Wheel} {i p n : Nat} (H : WheelAt w B s) (hi : i < 64) (elv : (s.nd i).lv = -1) (hp : p < 64) (hpi : p ≠ i) (ep : (s.nd i).pv = p) (ehd : s.lh (none) ≠ -1) (hn : n < 64) (hni : n ≠ i) (en : (s.nd i).nx = n) :
    Calls Tryz.prog 184 #[.pointer (some ⟨B, 1, none⟩), .int .i16 (i : Int)] w fun e w' => e = .returned (.tuple #[]) ∧ WheelAt w' B (unlEnd (unlD s p n) i) ∧ Mut B 1 1939 w w' := by
  obtain ⟨_, _, _, _, i4, i5, i6, i7⟩ := H.node hi
  obtain ⟨l0, l1⟩ := H.list (r := none) trivial
  have l0' : w.cell? ⟨B, 518, none⟩ = some (.int .i16 (s.lh (none))) := l0
  have l1' : w.cell? ⟨B, 518 + 1, none⟩ = some (.int .i16 (s.lt (none))) := l1
  clear l0 l1
  rw [ep] at i4
  rw [en] at i5
  rw [elv] at i6
  have i0 : (0 : Int) ≤ i := by omega
  have i1 : (i : Int) < 64 := by omega
  have fz := H.frz
  have p0 : (0 : Int) ≤ p := by omega
  have p1 : (p : Int) < 64 := by omega
  obtain ⟨_, _, _, _, _, p5, _, _⟩ := H.node hp
  have hpb : ((p : Int) == -1) = false := by simp <;> omega
  have q0 : (0 : Int) ≤ n := by omega
  have q1 : (n : Int) < 64 := by omega
  obtain ⟨_, _, _, _, n4, _, _, _⟩ := H.node hn
  have hnb : ((n : Int) == -1) = false := by simp <;> omega
  have n0 : ¬ (2 + p * 8 + 5 = 2 + i * 8 + 4) := by omega
  have n1 : ¬ (2 + i * 8 + 4 = 2 + p * 8 + 5) := by omega
  have n2 : ¬ (2 + p * 8 + 5 = 2 + i * 8 + 5) := by omega
  have n3 : ¬ (2 + i * 8 + 5 = 2 + p * 8 + 5) := by omega
  have n4 : ¬ (2 + p * 8 + 5 = 2 + i * 8 + 6) := by omega
  have n5 : ¬ (2 + i * 8 + 6 = 2 + p * 8 + 5) := by omega
  have n6 : ¬ (2 + p * 8 + 5 = 2 + i * 8 + 7) := by omega
  have n7 : ¬ (2 + i * 8 + 7 = 2 + p * 8 + 5) := by omega
  have n8 : ¬ (2 + p * 8 + 5 = 518) := by omega
  have n9 : ¬ (518 = 2 + p * 8 + 5) := by omega
  have n10 : ¬ (2 + p * 8 + 5 = 518 + 1) := by omega
  have n11 : ¬ (518 + 1 = 2 + p * 8 + 5) := by omega
  have n12 : ¬ (2 + n * 8 + 4 = 2 + i * 8 + 4) := by omega
  have n13 : ¬ (2 + i * 8 + 4 = 2 + n * 8 + 4) := by omega
  have n14 : ¬ (2 + n * 8 + 4 = 2 + i * 8 + 5) := by omega
  have n15 : ¬ (2 + i * 8 + 5 = 2 + n * 8 + 4) := by omega
  have n16 : ¬ (2 + n * 8 + 4 = 2 + i * 8 + 6) := by omega
  have n17 : ¬ (2 + i * 8 + 6 = 2 + n * 8 + 4) := by omega
  have n18 : ¬ (2 + n * 8 + 4 = 2 + i * 8 + 7) := by omega
  have n19 : ¬ (2 + i * 8 + 7 = 2 + n * 8 + 4) := by omega
  have n20 : ¬ (2 + n * 8 + 4 = 518) := by omega
  have n21 : ¬ (518 = 2 + n * 8 + 4) := by omega
  have n22 : ¬ (2 + n * 8 + 4 = 518 + 1) := by omega
  have n23 : ¬ (518 + 1 = 2 + n * 8 + 4) := by omega
  have n24 : ¬ (2 + i * 8 + 4 = 2 + i * 8 + 5) := by omega
  have n25 : ¬ (2 + i * 8 + 5 = 2 + i * 8 + 4) := by omega
  have n26 : ¬ (2 + i * 8 + 4 = 2 + i * 8 + 6) := by omega
  have n27 : ¬ (2 + i * 8 + 6 = 2 + i * 8 + 4) := by omega
  have n28 : ¬ (2 + i * 8 + 4 = 2 + i * 8 + 7) := by omega
  have n29 : ¬ (2 + i * 8 + 7 = 2 + i * 8 + 4) := by omega
  have n30 : ¬ (2 + i * 8 + 4 = 518) := by omega
  have n31 : ¬ (518 = 2 + i * 8 + 4) := by omega
  have n32 : ¬ (2 + i * 8 + 4 = 518 + 1) := by omega
  have n33 : ¬ (518 + 1 = 2 + i * 8 + 4) := by omega
  have n34 : ¬ (2 + i * 8 + 5 = 2 + i * 8 + 6) := by omega
  have n35 : ¬ (2 + i * 8 + 6 = 2 + i * 8 + 5) := by omega
  have n36 : ¬ (2 + i * 8 + 5 = 2 + i * 8 + 7) := by omega
  have n37 : ¬ (2 + i * 8 + 7 = 2 + i * 8 + 5) := by omega
  have n38 : ¬ (2 + i * 8 + 5 = 518) := by omega
  have n39 : ¬ (518 = 2 + i * 8 + 5) := by omega
  have n40 : ¬ (2 + i * 8 + 5 = 518 + 1) := by omega
  have n41 : ¬ (518 + 1 = 2 + i * 8 + 5) := by omega
  have n42 : ¬ (2 + i * 8 + 6 = 2 + i * 8 + 7) := by omega
  have n43 : ¬ (2 + i * 8 + 7 = 2 + i * 8 + 6) := by omega
  have n44 : ¬ (2 + i * 8 + 6 = 518) := by omega
  have n45 : ¬ (518 = 2 + i * 8 + 6) := by omega
  have n46 : ¬ (2 + i * 8 + 6 = 518 + 1) := by omega
  have n47 : ¬ (518 + 1 = 2 + i * 8 + 6) := by omega
  have n48 : ¬ (2 + i * 8 + 7 = 518) := by omega
  have n49 : ¬ (518 = 2 + i * 8 + 7) := by omega
  have n50 : ¬ (2 + i * 8 + 7 = 518 + 1) := by omega
  have n51 : ¬ (518 + 1 = 2 + i * 8 + 7) := by omega
  go_enter Tryz.func184, Tryz.ntmps184
  go_wp2
  go_region_held3 (fun w' => w'.cell? ⟨B, 2 + i * 8 + 4, none⟩ = some (.int .i16 (p : Int)) ∧ w'.cell? ⟨B, 2 + i * 8 + 5, none⟩ = some (.int .i16 (n : Int))) (refine ⟨?_, ?_⟩ <;> go_simp) (fail)
  go_wp2_with fail
  go_region_held3 (fun w' => w'.cell? ⟨B, 2 + i * 8 + 4, none⟩ = some (.int .i16 (p : Int)) ∧ w'.cell? ⟨B, 2 + i * 8 + 5, none⟩ = some (.int .i16 (n : Int))) (refine ⟨?_, ?_⟩ <;> go_simp) (fail)
  go_wp2_with fail
  (try go_wp2)
  go_end0
  exact ⟨rfl, ((((((H.putNx hp _).putPv hn _).putPv hi _).putNx hi _).putLv hi _).putSl hi _).drew.drew, (((((((Mut.refl B 1 1939 _).setCell (by omega) (by omega) _).setCell (by omega) (by omega) _).setCell (by omega) (by omega) _).setCell (by omega) (by omega) _).setCell (by omega) (by omega) _).setCell (by omega) (by omega) _).drew.drew⟩

end Go.Proofs.Qxb6500877aGreatDoor
