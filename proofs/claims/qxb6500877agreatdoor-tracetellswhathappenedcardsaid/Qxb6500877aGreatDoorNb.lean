import Derived.Test.Qxb6500877aGreatDoorNa
set_option linter.unusedVariables false
set_option linter.unusedSimpArgs false
namespace Go.Proofs.Qxb6500877aGreatDoor
open Go.RowKit

set_option maxHeartbeats 4000000 in
theorem push_any {w : World} {B : Nat} {s : Net} {i h n : Nat} {m : MsgV} (H : NetAt w B s) (hi : i < 16) (eh : (s.box i).head = h) (hh : h < 32) (en : (s.box i).n = n) (hn : n < 32) (ha : 0 ≤ (s.box i).acc ∧ (s.box i).acc < 1000000) :
    Calls Tryz.prog 207 #[.pointer (some ⟨B, 1939 + i * 291, none⟩), msgV m] w fun e w' => e = .returned (.tuple #[]) ∧ NetAt w' B (s.setBox i ((((s.box i).pMsg (plc h n) m).pN (n + 1)).pAcc ((s.box i).acc + 1))) ∧ Mut B 1939 6596 w w' := by
  have hp := plc_lt hh (Nat.le_of_lt hn)
  have hpl := fun {w : World} (H : NetAt w B s) => mplace_any (w := w) (B := B) (s := s) H hi eh hh (Nat.le_of_lt hn)
  have hlt : B < w.heap.size := World.block_lt_of_cell? _ _ (H.ctl hi).1
  generalize plc h n = k at *
  have HN : NetAt (w.alloc (.cells #[.int .i64 m.mf, .int .i64 m.mt, .int .u32 m.md, .int .u64 m.mq, .int .u64 m.ma, .int .u64 m.x0, .int .u64 m.x1, .int .u64 m.x2, .int .u64 m.x3] 40)) B s := H.mut (Mut.of_below (lo := 0) (hi := 0) (one_alloc _ _) hlt) (by omega)
  generalize hW : w.alloc (.cells #[.int .i64 m.mf, .int .i64 m.mt, .int .u32 m.md, .int .u64 m.mq, .int .u64 m.ma, .int .u64 m.x0, .int .u64 m.x1, .int .u64 m.x2, .int .u64 m.x3] 40) = W at *
  have hb0 : Below w.heap.size w W := by rw [← hW]; exact one_alloc _ _
  obtain ⟨y0, y1, y2, y3, y4, y5, y6, y7, y8⟩ : W.cell? ⟨w.heap.size, 0, none⟩ = some (.int .i64 m.mf) ∧ W.cell? ⟨w.heap.size, 1, none⟩ = some (.int .i64 m.mt) ∧ W.cell? ⟨w.heap.size, 2, none⟩ = some (.int .u32 m.md) ∧ W.cell? ⟨w.heap.size, 3, none⟩ = some (.int .u64 m.mq) ∧ W.cell? ⟨w.heap.size, 4, none⟩ = some (.int .u64 m.ma) ∧ W.cell? ⟨w.heap.size, 5, none⟩ = some (.int .u64 m.x0) ∧ W.cell? ⟨w.heap.size, 6, none⟩ = some (.int .u64 m.x1) ∧ W.cell? ⟨w.heap.size, 7, none⟩ = some (.int .u64 m.x2) ∧ W.cell? ⟨w.heap.size, 8, none⟩ = some (.int .u64 m.x3) := by
    rw [← hW]; refine ⟨?_, ?_, ?_, ?_, ?_, ?_, ?_, ?_, ?_⟩ <;> simp
  have hne : ¬ (B = w.heap.size) := by omega
  have hne2 : ¬ (w.heap.size = B) := by omega
  obtain ⟨c0, c1, c2⟩ := HN.ctl hi
  obtain ⟨z0, z1, z2, z3, z4, z5, z6, z7, z8⟩ := HN.msg hi hp
  have fz := HN.frz
  rw [en] at c1
  have j0 : (0 : Int) ≤ k := by omega
  have j1 : (k : Int) < 32 := by omega
  have hwa : IntKind.u64.wrap ((s.box i).acc + 1) = (s.box i).acc + 1 := wrap_u64 (by omega)
  have n0 : ¬ (1939 + i * 291 + k * 9 = 1939 + i * 291 + 289) := by omega
  have n1 : ¬ (1939 + i * 291 + 289 = 1939 + i * 291 + k * 9) := by omega
  have n2 : ¬ (1939 + i * 291 + k * 9 = 1939 + i * 291 + 290) := by omega
  have n3 : ¬ (1939 + i * 291 + 290 = 1939 + i * 291 + k * 9) := by omega
  have n4 : ¬ (1939 + i * 291 + k * 9 + 1 = 1939 + i * 291 + 289) := by omega
  have n5 : ¬ (1939 + i * 291 + 289 = 1939 + i * 291 + k * 9 + 1) := by omega
  have n6 : ¬ (1939 + i * 291 + k * 9 + 1 = 1939 + i * 291 + 290) := by omega
  have n7 : ¬ (1939 + i * 291 + 290 = 1939 + i * 291 + k * 9 + 1) := by omega
  have n8 : ¬ (1939 + i * 291 + k * 9 + 2 = 1939 + i * 291 + 289) := by omega
  have n9 : ¬ (1939 + i * 291 + 289 = 1939 + i * 291 + k * 9 + 2) := by omega
  have n10 : ¬ (1939 + i * 291 + k * 9 + 2 = 1939 + i * 291 + 290) := by omega
  have n11 : ¬ (1939 + i * 291 + 290 = 1939 + i * 291 + k * 9 + 2) := by omega
  have n12 : ¬ (1939 + i * 291 + k * 9 + 3 = 1939 + i * 291 + 289) := by omega
  have n13 : ¬ (1939 + i * 291 + 289 = 1939 + i * 291 + k * 9 + 3) := by omega
  have n14 : ¬ (1939 + i * 291 + k * 9 + 3 = 1939 + i * 291 + 290) := by omega
  have n15 : ¬ (1939 + i * 291 + 290 = 1939 + i * 291 + k * 9 + 3) := by omega
  have n16 : ¬ (1939 + i * 291 + k * 9 + 4 = 1939 + i * 291 + 289) := by omega
  have n17 : ¬ (1939 + i * 291 + 289 = 1939 + i * 291 + k * 9 + 4) := by omega
  have n18 : ¬ (1939 + i * 291 + k * 9 + 4 = 1939 + i * 291 + 290) := by omega
  have n19 : ¬ (1939 + i * 291 + 290 = 1939 + i * 291 + k * 9 + 4) := by omega
  have n20 : ¬ (1939 + i * 291 + k * 9 + 5 = 1939 + i * 291 + 289) := by omega
  have n21 : ¬ (1939 + i * 291 + 289 = 1939 + i * 291 + k * 9 + 5) := by omega
  have n22 : ¬ (1939 + i * 291 + k * 9 + 5 = 1939 + i * 291 + 290) := by omega
  have n23 : ¬ (1939 + i * 291 + 290 = 1939 + i * 291 + k * 9 + 5) := by omega
  have n24 : ¬ (1939 + i * 291 + k * 9 + 6 = 1939 + i * 291 + 289) := by omega
  have n25 : ¬ (1939 + i * 291 + 289 = 1939 + i * 291 + k * 9 + 6) := by omega
  have n26 : ¬ (1939 + i * 291 + k * 9 + 6 = 1939 + i * 291 + 290) := by omega
  have n27 : ¬ (1939 + i * 291 + 290 = 1939 + i * 291 + k * 9 + 6) := by omega
  have n28 : ¬ (1939 + i * 291 + k * 9 + 7 = 1939 + i * 291 + 289) := by omega
  have n29 : ¬ (1939 + i * 291 + 289 = 1939 + i * 291 + k * 9 + 7) := by omega
  have n30 : ¬ (1939 + i * 291 + k * 9 + 7 = 1939 + i * 291 + 290) := by omega
  have n31 : ¬ (1939 + i * 291 + 290 = 1939 + i * 291 + k * 9 + 7) := by omega
  have n32 : ¬ (1939 + i * 291 + k * 9 + 8 = 1939 + i * 291 + 289) := by omega
  have n33 : ¬ (1939 + i * 291 + 289 = 1939 + i * 291 + k * 9 + 8) := by omega
  have n34 : ¬ (1939 + i * 291 + k * 9 + 8 = 1939 + i * 291 + 290) := by omega
  have n35 : ¬ (1939 + i * 291 + 290 = 1939 + i * 291 + k * 9 + 8) := by omega
  have n36 : ¬ (1939 + i * 291 + 289 = 1939 + i * 291 + 290) := by omega
  have n37 : ¬ (1939 + i * 291 + 290 = 1939 + i * 291 + 289) := by omega
  unfold msgV
  go_enter Tryz.func207, Tryz.ntmps207
  go_wp2_with fail
  (try rw [hW])
  have HD := HN.drew
  have d1 : W.drew.cell? ⟨B, 1939 + i * 291 + 289, none⟩ = some (.int .i64 (n : Int)) := c1
  have e0 : W.drew.cell? ⟨w.heap.size, 0, none⟩ = some (.int .i64 m.mf) := y0
  have e1 : W.drew.cell? ⟨w.heap.size, 1, none⟩ = some (.int .i64 m.mt) := y1
  have e2 : W.drew.cell? ⟨w.heap.size, 2, none⟩ = some (.int .u32 m.md) := y2
  have e3 : W.drew.cell? ⟨w.heap.size, 3, none⟩ = some (.int .u64 m.mq) := y3
  have e4 : W.drew.cell? ⟨w.heap.size, 4, none⟩ = some (.int .u64 m.ma) := y4
  have e5 : W.drew.cell? ⟨w.heap.size, 5, none⟩ = some (.int .u64 m.x0) := y5
  have e6 : W.drew.cell? ⟨w.heap.size, 6, none⟩ = some (.int .u64 m.x1) := y6
  have e7 : W.drew.cell? ⟨w.heap.size, 7, none⟩ = some (.int .u64 m.x2) := y7
  have e8 : W.drew.cell? ⟨w.heap.size, 8, none⟩ = some (.int .u64 m.x3) := y8
  go_region_held3 (fun w' => w'.cell? ⟨B, 1939 + i * 291 + 289, none⟩ = some (.int .i64 (n : Int)) ∧ w'.cell? ⟨w.heap.size, 0, none⟩ = some (.int .i64 m.mf) ∧ w'.cell? ⟨w.heap.size, 1, none⟩ = some (.int .i64 m.mt) ∧ w'.cell? ⟨w.heap.size, 2, none⟩ = some (.int .u32 m.md) ∧ w'.cell? ⟨w.heap.size, 3, none⟩ = some (.int .u64 m.mq) ∧ w'.cell? ⟨w.heap.size, 4, none⟩ = some (.int .u64 m.ma) ∧ w'.cell? ⟨w.heap.size, 5, none⟩ = some (.int .u64 m.x0) ∧ w'.cell? ⟨w.heap.size, 6, none⟩ = some (.int .u64 m.x1) ∧ w'.cell? ⟨w.heap.size, 7, none⟩ = some (.int .u64 m.x2) ∧ w'.cell? ⟨w.heap.size, 8, none⟩ = some (.int .u64 m.x3))
    (first | with_reducible exact ⟨d1, e0, e1, e2, e3, e4, e5, e6, e7, e8⟩ | (refine ⟨?_, ?_, ?_, ?_, ?_, ?_, ?_, ?_, ?_, ?_⟩ <;> go_simp))
    (first | (go_at_call 162; refine (hpl HD).mono ?_; rintro e w1 ⟨rfl, rfl⟩))
  go_wp2
  go_end0
  have R := (((HN.putMsg hi hp m).putN hi ((n : Int) + 1)).putAcc hi ((s.box i).acc + 1)).drew
  rw [Net.setBox_box, Net.setBox_twice, Net.setBox_box, Net.setBox_twice] at R
  exact ⟨rfl, R, (Mut.of_below hb0 hlt).trans ((((((((((((Mut.refl B 1939 6596 _).setCell (by omega) (by omega) _).setCell (by omega) (by omega) _).setCell (by omega) (by omega) _).setCell (by omega) (by omega) _).setCell (by omega) (by omega) _).setCell (by omega) (by omega) _).setCell (by omega) (by omega) _).setCell (by omega) (by omega) _).setCell (by omega) (by omega) _).setCell (by omega) (by omega) _).setCell (by omega) (by omega) _).drew⟩
end Go.Proofs.Qxb6500877aGreatDoor
