import Derived.Test.Qxb6500877aGreatDoorWf0
set_option linter.unusedVariables false
set_option linter.unusedSimpArgs false
namespace Go.Proofs.Qxb6500877aGreatDoor
open Go.RowKit

set_option maxHeartbeats 4000000 in
theorem unlink_slot_D {w : World} {B : Nat} {s : Wheel} {i k z p n : Nat} (H : WheelAt w B s) (hi : i < 64) (hk : k < 11) (hz : z < 64) (elv : (s.nd i).lv = k) (esl : (s.nd i).sl = z) (hp : p < 64) (hpi : p ≠ i) (ep : (s.nd i).pv = p) (ehd : s.lh (some (k, z)) ≠ -1) (hn : n < 64) (hni : n ≠ i) (en : (s.nd i).nx = n) :
    Calls Tryz.prog 184 #[.pointer (some ⟨B, 1, none⟩), .int .i16 (i : Int)] w fun e w' => e = .returned (.tuple #[]) ∧ WheelAt w' B (unlEnd (unlD s p n) i) ∧ Mut B 1 1939 w w' := by
  obtain ⟨_, _, _, _, i4, i5, i6, i7⟩ := H.node hi
  obtain ⟨l0, l1⟩ := H.list (r := some (k, z)) ⟨hk, hz⟩
  have l0' : w.cell? ⟨B, 520 + k * 128 + z * 2, none⟩ = some (.int .i16 (s.lh (some (k, z)))) := l0
  have l1' : w.cell? ⟨B, 520 + k * 128 + z * 2 + 1, none⟩ = some (.int .i16 (s.lt (some (k, z)))) := l1
  clear l0 l1
  rw [ep] at i4
  rw [en] at i5
  rw [elv] at i6
  have i0 : (0 : Int) ≤ i := by omega
  have i1 : (i : Int) < 64 := by omega
  have fz := H.frz
  rw [esl] at i7
  have j0 : (0 : Int) ≤ k := by omega
  have j1 : (k : Int) < 11 := by omega
  have l0 : (0 : Int) ≤ z := by omega
  have l1 : (z : Int) < 64 := by omega
  have o1 := H.bits hk
  have hwz : IntKind.u64.wrap (z : Int) = z := wrap_u64 (by omega)
  have p0 : (0 : Int) ≤ p := by omega
  have p1 : (p : Int) < 64 := by omega
  obtain ⟨_, _, _, _, _, p5, _, _⟩ := H.node hp
  have hpb : ((p : Int) == -1) = false := by simp <;> omega
  have q0 : (0 : Int) ≤ n := by omega
  have q1 : (n : Int) < 64 := by omega
  obtain ⟨_, _, _, _, n4, _, _, _⟩ := H.node hn
  have hnb : ((n : Int) == -1) = false := by simp <;> omega
  have n0 : ¬ (2 + p * 8 + 5 = 2 + i * 8 + 4) := by omega
  have n1 : ¬ (2 + i * 8 + 4 = 2 + p * 8 + 5) := by omega
  have n2 : ¬ (2 + p * 8 + 5 = 2 + i * 8 + 5) := by omega
  have n3 : ¬ (2 + i * 8 + 5 = 2 + p * 8 + 5) := by omega
  have n4 : ¬ (2 + p * 8 + 5 = 2 + i * 8 + 6) := by omega
  have n5 : ¬ (2 + i * 8 + 6 = 2 + p * 8 + 5) := by omega
  have n6 : ¬ (2 + p * 8 + 5 = 2 + i * 8 + 7) := by omega
  have n7 : ¬ (2 + i * 8 + 7 = 2 + p * 8 + 5) := by omega
  have n8 : ¬ (2 + p * 8 + 5 = 520 + k * 128 + z * 2) := by omega
  have n9 : ¬ (520 + k * 128 + z * 2 = 2 + p * 8 + 5) := by omega
  have n10 : ¬ (2 + p * 8 + 5 = 520 + k * 128 + z * 2 + 1) := by omega
  have n11 : ¬ (520 + k * 128 + z * 2 + 1 = 2 + p * 8 + 5) := by omega
  have n12 : ¬ (2 + p * 8 + 5 = 1928 + k) := by omega
  have n13 : ¬ (1928 + k = 2 + p * 8 + 5) := by omega
  have n14 : ¬ (2 + n * 8 + 4 = 2 + i * 8 + 4) := by omega
  have n15 : ¬ (2 + i * 8 + 4 = 2 + n * 8 + 4) := by omega
  have n16 : ¬ (2 + n * 8 + 4 = 2 + i * 8 + 5) := by omega
  have n17 : ¬ (2 + i * 8 + 5 = 2 + n * 8 + 4) := by omega
  have n18 : ¬ (2 + n * 8 + 4 = 2 + i * 8 + 6) := by omega
  have n19 : ¬ (2 + i * 8 + 6 = 2 + n * 8 + 4) := by omega
  have n20 : ¬ (2 + n * 8 + 4 = 2 + i * 8 + 7) := by omega
  have n21 : ¬ (2 + i * 8 + 7 = 2 + n * 8 + 4) := by omega
  have n22 : ¬ (2 + n * 8 + 4 = 520 + k * 128 + z * 2) := by omega
  have n23 : ¬ (520 + k * 128 + z * 2 = 2 + n * 8 + 4) := by omega
  have n24 : ¬ (2 + n * 8 + 4 = 520 + k * 128 + z * 2 + 1) := by omega
  have n25 : ¬ (520 + k * 128 + z * 2 + 1 = 2 + n * 8 + 4) := by omega
  have n26 : ¬ (2 + n * 8 + 4 = 1928 + k) := by omega
  have n27 : ¬ (1928 + k = 2 + n * 8 + 4) := by omega
  have n28 : ¬ (2 + i * 8 + 4 = 2 + i * 8 + 5) := by omega
  have n29 : ¬ (2 + i * 8 + 5 = 2 + i * 8 + 4) := by omega
  have n30 : ¬ (2 + i * 8 + 4 = 2 + i * 8 + 6) := by omega
  have n31 : ¬ (2 + i * 8 + 6 = 2 + i * 8 + 4) := by omega
  have n32 : ¬ (2 + i * 8 + 4 = 2 + i * 8 + 7) := by omega
  have n33 : ¬ (2 + i * 8 + 7 = 2 + i * 8 + 4) := by omega
  have n34 : ¬ (2 + i * 8 + 4 = 520 + k * 128 + z * 2) := by omega
  have n35 : ¬ (520 + k * 128 + z * 2 = 2 + i * 8 + 4) := by omega
  have n36 : ¬ (2 + i * 8 + 4 = 520 + k * 128 + z * 2 + 1) := by omega
  have n37 : ¬ (520 + k * 128 + z * 2 + 1 = 2 + i * 8 + 4) := by omega
  have n38 : ¬ (2 + i * 8 + 4 = 1928 + k) := by omega
  have n39 : ¬ (1928 + k = 2 + i * 8 + 4) := by omega
  have n40 : ¬ (2 + i * 8 + 5 = 2 + i * 8 + 6) := by omega
  have n41 : ¬ (2 + i * 8 + 6 = 2 + i * 8 + 5) := by omega
  have n42 : ¬ (2 + i * 8 + 5 = 2 + i * 8 + 7) := by omega
  have n43 : ¬ (2 + i * 8 + 7 = 2 + i * 8 + 5) := by omega
  have n44 : ¬ (2 + i * 8 + 5 = 520 + k * 128 + z * 2) := by omega
  have n45 : ¬ (520 + k * 128 + z * 2 = 2 + i * 8 + 5) := by omega
  have n46 : ¬ (2 + i * 8 + 5 = 520 + k * 128 + z * 2 + 1) := by omega
  have n47 : ¬ (520 + k * 128 + z * 2 + 1 = 2 + i * 8 + 5) := by omega
  have n48 : ¬ (2 + i * 8 + 5 = 1928 + k) := by omega
  have n49 : ¬ (1928 + k = 2 + i * 8 + 5) := by omega
  have n50 : ¬ (2 + i * 8 + 6 = 2 + i * 8 + 7) := by omega
  have n51 : ¬ (2 + i * 8 + 7 = 2 + i * 8 + 6) := by omega
  have n52 : ¬ (2 + i * 8 + 6 = 520 + k * 128 + z * 2) := by omega
  have n53 : ¬ (520 + k * 128 + z * 2 = 2 + i * 8 + 6) := by omega
  have n54 : ¬ (2 + i * 8 + 6 = 520 + k * 128 + z * 2 + 1) := by omega
  have n55 : ¬ (520 + k * 128 + z * 2 + 1 = 2 + i * 8 + 6) := by omega
  have n56 : ¬ (2 + i * 8 + 6 = 1928 + k) := by omega
  have n57 : ¬ (1928 + k = 2 + i * 8 + 6) := by omega
  have n58 : ¬ (2 + i * 8 + 7 = 520 + k * 128 + z * 2) := by omega
  have n59 : ¬ (520 + k * 128 + z * 2 = 2 + i * 8 + 7) := by omega
  have n60 : ¬ (2 + i * 8 + 7 = 520 + k * 128 + z * 2 + 1) := by omega
  have n61 : ¬ (520 + k * 128 + z * 2 + 1 = 2 + i * 8 + 7) := by omega
  have n62 : ¬ (2 + i * 8 + 7 = 1928 + k) := by omega
  have n63 : ¬ (1928 + k = 2 + i * 8 + 7) := by omega
  go_enter Tryz.func184, Tryz.ntmps184
  go_wp2
  go_region_held3 (fun w' => w'.cell? ⟨B, 2 + i * 8 + 6, none⟩ = some (.int .i8 (k : Int)) ∧ w'.cell? ⟨B, 2 + i * 8 + 7, none⟩ = some (.int .u8 (z : Int))) (exact ⟨i6, i7⟩) (fail)
  go_wp2_with fail
  go_region_held3 (fun w' => w'.cell? ⟨B, 2 + i * 8 + 4, none⟩ = some (.int .i16 (p : Int)) ∧ w'.cell? ⟨B, 2 + i * 8 + 5, none⟩ = some (.int .i16 (n : Int))) (refine ⟨?_, ?_⟩ <;> go_simp) (fail)
  go_wp2_with fail
  go_region_held3 (fun w' => w'.cell? ⟨B, 2 + i * 8 + 4, none⟩ = some (.int .i16 (p : Int)) ∧ w'.cell? ⟨B, 2 + i * 8 + 5, none⟩ = some (.int .i16 (n : Int))) (refine ⟨?_, ?_⟩ <;> go_simp) (fail)
  go_wp2_with fail
  refine (listEmpty_any (v := (s.lh (some (k, z)))) (by go_simp)).mono ?_
  rintro e w1 ⟨rfl, hw1⟩
  subst hw1
  rw [decide_eq_false (show ¬ ((s.lh (some (k, z))) : Int) = -1 by exact ehd)]
  go_wp2_with fail
  (try go_wp2)
  go_end0
  exact ⟨rfl, ((((((H.putNx hp _).putPv hn _).putPv hi _).putNx hi _).putLv hi _).putSl hi _).drew.drew.drew, (((((((Mut.refl B 1 1939 _).setCell (by omega) (by omega) _).setCell (by omega) (by omega) _).setCell (by omega) (by omega) _).setCell (by omega) (by omega) _).setCell (by omega) (by omega) _).setCell (by omega) (by omega) _).drew.drew.drew⟩

end Go.Proofs.Qxb6500877aGreatDoor
