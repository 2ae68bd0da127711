import Derived.Test.Qxb6500877aGreatDoorNd
set_option linter.unusedVariables false
set_option linter.unusedSimpArgs false
namespace Go.Proofs.Qxb6500877aGreatDoor
open Go.RowKit

theorem bel_set {w w' : World} (h : Below w.heap.size w w') (q : Addr) (hq : w.heap.size ≤ q.block) (v : Value) : Below w.heap.size w (w'.setCell q v) := h.setCell hq v

set_option maxHeartbeats 4000000 in
theorem stamp_any {w : World} {B : Nat} {s : Net} {a b : Nat} {now kd x0 x1 x2 x3 : Int} (H : NetAt w B s) (ha : a < 4) (hb : b < 4) (hacc : 0 ≤ (s.box (a * 4 + b)).acc ∧ (s.box (a * 4 + b)).acc < 1000000) :
    Calls Tryz.prog 206 #[.pointer (some ⟨B, 1939, none⟩), .int .u64 now, .int .i64 (a : Int), .int .i64 (b : Int), .int .u32 kd, .agg #[.int .u64 x0, .int .u64 x1, .int .u64 x2, .int .u64 x3]] w fun e w' => e = .returned (msgV ⟨a, b, kd, (s.box (a * 4 + b)).acc + 1, now, x0, x1, x2, x3⟩) ∧ Below w.heap.size w w' := by
  have hi : a * 4 + b < 16 := by omega
  have hlt : B < w.heap.size := World.block_lt_of_cell? _ _ (H.ctl hi).1
  generalize hW : (w.alloc (.cells #[.int .u64 x0, .int .u64 x1, .int .u64 x2, .int .u64 x3] 38)).alloc (.cells #[.int .i64 0, .int .i64 0, .int .u32 0, .int .u64 0, .int .u64 0, .int .u64 0, .int .u64 0, .int .u64 0, .int .u64 0] 40) = W at *
  have hb0 : Below w.heap.size w W := by rw [← hW]; exact chain (one_alloc _ _) (one_alloc _ _)
  have hsz : W.heap.size = w.heap.size + 2 := by rw [← hW]; simp
  have N0 : Nine W (w.heap.size + 1) msg0 := by rw [← hW]; refine ⟨?_, ?_, ?_, ?_, ?_, ?_, ?_, ?_, ?_, fun o => ?_⟩ <;> simp [msg0]
  obtain ⟨v0, v1, v2, v3⟩ : W.cell? ⟨w.heap.size, 0, none⟩ = some (.int .u64 x0) ∧ W.cell? ⟨w.heap.size, 1, none⟩ = some (.int .u64 x1) ∧ W.cell? ⟨w.heap.size, 2, none⟩ = some (.int .u64 x2) ∧ W.cell? ⟨w.heap.size, 3, none⟩ = some (.int .u64 x3) := by
    rw [← hW]; refine ⟨?_, ?_, ?_, ?_⟩ <;> simp
  have HW : NetAt W B s := H.mut (Mut.of_below (lo := 0) (hi := 0) hb0 hlt) (by omega)
  have hne : ¬ (B = w.heap.size) := by omega
  have hne1 : ¬ (B = w.heap.size + 1) := by omega
  have hq1 : w.heap.size + 1 ≠ B := fun e => hne1 e.symm
  have hq2 : w.heap.size ≤ w.heap.size + 1 ∧ w.heap.size + 1 ≠ B := ⟨by omega, hq1⟩
  obtain ⟨c0, c1, c2⟩ := HW.ctl hi
  have hbx := @box_any W.drew a b ha hb
  generalize hI : a * 4 + b = i at *
  have j0 : (0 : Int) ≤ i := by omega
  have j1 : (i : Int) < 16 := by omega
  have hwa : IntKind.u64.wrap ((s.box i).acc + 1) = (s.box i).acc + 1 := wrap_u64 (by omega)
  have d2 : W.drew.cell? ⟨B, 1939 + i * 291 + 290, none⟩ = some (.int .u64 (s.box i).acc) := c2
  have e0 : W.drew.cell? ⟨w.heap.size, 0, none⟩ = some (.int .u64 x0) := v0
  have e1 : W.drew.cell? ⟨w.heap.size, 1, none⟩ = some (.int .u64 x1) := v1
  have e2 : W.drew.cell? ⟨w.heap.size, 2, none⟩ = some (.int .u64 x2) := v2
  have e3 : W.drew.cell? ⟨w.heap.size, 3, none⟩ = some (.int .u64 x3) := v3
  obtain ⟨z0, z1, z2, z3, z4, z5, z6, z7, z8, fz⟩ := N0
  go_enter Tryz.func206, Tryz.ntmps206
  go_wp2_with fail
  go_region_held3 (fun w' => w'.cell? ⟨B, 1939 + i * 291 + 290, none⟩ = some (.int .u64 (s.box i).acc) ∧ w'.cell? ⟨w.heap.size, 0, none⟩ = some (.int .u64 x0) ∧ w'.cell? ⟨w.heap.size, 1, none⟩ = some (.int .u64 x1) ∧ w'.cell? ⟨w.heap.size, 2, none⟩ = some (.int .u64 x2) ∧ w'.cell? ⟨w.heap.size, 3, none⟩ = some (.int .u64 x3))
    (first | with_reducible exact ⟨d2, e0, e1, e2, e3⟩ | (refine ⟨?_, ?_, ?_, ?_, ?_⟩ <;> go_simp))
    (first | (go_at_call 96; refine hbx.mono ?_; rintro e w1 ⟨rfl, rfl⟩))
  go_wp2
  exact bodyPost_ret (v := msgV ⟨a, b, kd, (s.box i).acc + 1, now, x0, x1, x2, x3⟩) (by simp [msgV, results, Tryz.results206, go_sem, z0, z1, z2, z3, z4, z5, z6, z7, z8]) rfl
    ⟨rfl, (bel_set (bel_set (bel_set (bel_set (bel_set (bel_set (bel_set (bel_set (bel_set hb0 ⟨w.heap.size + 1, 0, none⟩ (by simp) _) ⟨w.heap.size + 1, 1, none⟩ (by simp) _) ⟨w.heap.size + 1, 2, none⟩ (by simp) _) ⟨w.heap.size + 1, 3, none⟩ (by simp) _) ⟨w.heap.size + 1, 4, none⟩ (by simp) _) ⟨w.heap.size + 1, 5, none⟩ (by simp) _) ⟨w.heap.size + 1, 6, none⟩ (by simp) _) ⟨w.heap.size + 1, 7, none⟩ (by simp) _) ⟨w.heap.size + 1, 8, none⟩ (by simp) _).drew⟩
def sendF (s : Net) (i h n : Nat) (m : MsgV) : Net := (s.setBox i ((((s.box i).pMsg (plc h n) m).pN (n + 1)).pAcc ((s.box i).acc + 1))).setBusy (orBusy s.busy i)

set_option maxHeartbeats 4000000 in
theorem send_full {w : World} {B : Nat} {s : Net} {a b : Nat} {now kd x0 x1 x2 x3 : Int} (H : NetAt w B s) (ha : a < 4) (hb : b < 4) (en : (s.box (a * 4 + b)).n = 32) :
    Calls Tryz.prog 182 #[.pointer (some ⟨B, 1939, none⟩), .int .u64 now, .int .i64 (a : Int), .int .i64 (b : Int), .int .u32 kd, .agg #[.int .u64 x0, .int .u64 x1, .int .u64 x2, .int .u64 x3]] w fun e w' => e = .returned (.tuple #[msgV msg0, .bool false]) ∧ NetAt w' B s ∧ Mut B 1939 6596 w w' := by
  have hi : a * 4 + b < 16 := by omega
  have hlt : B < w.heap.size := World.block_lt_of_cell? _ _ (H.ctl hi).1
  generalize hW : (w.alloc (.cells #[.int .u64 x0, .int .u64 x1, .int .u64 x2, .int .u64 x3] 38)).alloc (.cells #[.int .i64 0, .int .i64 0, .int .u32 0, .int .u64 0, .int .u64 0, .int .u64 0, .int .u64 0, .int .u64 0, .int .u64 0] 40) = W at *
  have hb0 : Below w.heap.size w W := by rw [← hW]; exact chain (one_alloc _ _) (one_alloc _ _)
  have hsz : W.heap.size = w.heap.size + 2 := by rw [← hW]; simp
  have N0 : Nine W (w.heap.size + 1) msg0 := by rw [← hW]; refine ⟨?_, ?_, ?_, ?_, ?_, ?_, ?_, ?_, ?_, fun o => ?_⟩ <;> simp [msg0]
  obtain ⟨v0, v1, v2, v3⟩ : W.cell? ⟨w.heap.size, 0, none⟩ = some (.int .u64 x0) ∧ W.cell? ⟨w.heap.size, 1, none⟩ = some (.int .u64 x1) ∧ W.cell? ⟨w.heap.size, 2, none⟩ = some (.int .u64 x2) ∧ W.cell? ⟨w.heap.size, 3, none⟩ = some (.int .u64 x3) := by
    rw [← hW]; refine ⟨?_, ?_, ?_, ?_⟩ <;> simp
  have HW : NetAt W B s := H.mut (Mut.of_below (lo := 0) (hi := 0) hb0 hlt) (by omega)
  have hne : ¬ (B = w.heap.size) := by omega
  have hne1 : ¬ (B = w.heap.size + 1) := by omega
  have hq1 : w.heap.size + 1 ≠ B := fun e => hne1 e.symm
  have hq2 : w.heap.size ≤ w.heap.size + 1 ∧ w.heap.size + 1 ≠ B := ⟨by omega, hq1⟩
  have hbx := @box_any W a b ha hb
  generalize hI : a * 4 + b = i at *
  have j0 : (0 : Int) ≤ i := by omega
  have j1 : (i : Int) < 16 := by omega
  have he := mfull_any HW hi
  rw [en] at he
  obtain ⟨z0, z1, z2, z3, z4, z5, z6, z7, z8, fz⟩ := N0
  go_enter Tryz.func182, Tryz.ntmps182
  go_wp2_with fail
  refine hbx.mono ?_
  rintro e w1 ⟨rfl, rfl⟩
  go_wp2_with fail
  refine he.mono ?_
  rintro e w1 ⟨rfl, rfl⟩
  go_wp2
  exact bodyPost_ret (v := .tuple #[msgV msg0, .bool false]) (by simp [msgV, msg0, results, Tryz.results182, go_sem, z0, z1, z2, z3, z4, z5, z6, z7, z8]) rfl
    ⟨rfl, (((((((((HW.other ⟨w.heap.size + 1, 0, none⟩ hq1 _).other ⟨w.heap.size + 1, 1, none⟩ hq1 _).other ⟨w.heap.size + 1, 2, none⟩ hq1 _).other ⟨w.heap.size + 1, 3, none⟩ hq1 _).other ⟨w.heap.size + 1, 4, none⟩ hq1 _).other ⟨w.heap.size + 1, 5, none⟩ hq1 _).other ⟨w.heap.size + 1, 6, none⟩ hq1 _).other ⟨w.heap.size + 1, 7, none⟩ hq1 _).other ⟨w.heap.size + 1, 8, none⟩ hq1 _), ((((((((((Mut.of_below hb0 hlt).fresh ⟨w.heap.size + 1, 0, none⟩ hq2 _).fresh ⟨w.heap.size + 1, 1, none⟩ hq2 _).fresh ⟨w.heap.size + 1, 2, none⟩ hq2 _).fresh ⟨w.heap.size + 1, 3, none⟩ hq2 _).fresh ⟨w.heap.size + 1, 4, none⟩ hq2 _).fresh ⟨w.heap.size + 1, 5, none⟩ hq2 _).fresh ⟨w.heap.size + 1, 6, none⟩ hq2 _).fresh ⟨w.heap.size + 1, 7, none⟩ hq2 _).fresh ⟨w.heap.size + 1, 8, none⟩ hq2 _)⟩

set_option maxHeartbeats 4000000 in
theorem send_ok {w : World} {B : Nat} {s : Net} {a b : Nat} {now kd x0 x1 x2 x3 : Int} {h n : Nat} (H : NetAt w B s) (ha : a < 4) (hb : b < 4) (eh : (s.box (a * 4 + b)).head = h) (hh : h < 32) (en : (s.box (a * 4 + b)).n = n) (hn : n < 32) (hacc : 0 ≤ (s.box (a * 4 + b)).acc ∧ (s.box (a * 4 + b)).acc < 1000000) :
    Calls Tryz.prog 182 #[.pointer (some ⟨B, 1939, none⟩), .int .u64 now, .int .i64 (a : Int), .int .i64 (b : Int), .int .u32 kd, .agg #[.int .u64 x0, .int .u64 x1, .int .u64 x2, .int .u64 x3]] w fun e w' => e = .returned (.tuple #[msgV ⟨a, b, kd, (s.box (a * 4 + b)).acc + 1, now, x0, x1, x2, x3⟩, .bool true]) ∧ NetAt w' B (sendF s (a * 4 + b) h n ⟨a, b, kd, (s.box (a * 4 + b)).acc + 1, now, x0, x1, x2, x3⟩) ∧ Mut B 1939 6596 w w' := by
  have hi : a * 4 + b < 16 := by omega
  have hlt : B < w.heap.size := World.block_lt_of_cell? _ _ (H.ctl hi).1
  generalize hW : (w.alloc (.cells #[.int .u64 x0, .int .u64 x1, .int .u64 x2, .int .u64 x3] 38)).alloc (.cells #[.int .i64 0, .int .i64 0, .int .u32 0, .int .u64 0, .int .u64 0, .int .u64 0, .int .u64 0, .int .u64 0, .int .u64 0] 40) = W at *
  have hb0 : Below w.heap.size w W := by rw [← hW]; exact chain (one_alloc _ _) (one_alloc _ _)
  have hsz : W.heap.size = w.heap.size + 2 := by rw [← hW]; simp
  have N0 : Nine W (w.heap.size + 1) msg0 := by rw [← hW]; refine ⟨?_, ?_, ?_, ?_, ?_, ?_, ?_, ?_, ?_, fun o => ?_⟩ <;> simp [msg0]
  obtain ⟨v0, v1, v2, v3⟩ : W.cell? ⟨w.heap.size, 0, none⟩ = some (.int .u64 x0) ∧ W.cell? ⟨w.heap.size, 1, none⟩ = some (.int .u64 x1) ∧ W.cell? ⟨w.heap.size, 2, none⟩ = some (.int .u64 x2) ∧ W.cell? ⟨w.heap.size, 3, none⟩ = some (.int .u64 x3) := by
    rw [← hW]; refine ⟨?_, ?_, ?_, ?_⟩ <;> simp
  have HW : NetAt W B s := H.mut (Mut.of_below (lo := 0) (hi := 0) hb0 hlt) (by omega)
  have hne : ¬ (B = w.heap.size) := by omega
  have hne1 : ¬ (B = w.heap.size + 1) := by omega
  have hq1 : w.heap.size + 1 ≠ B := fun e => hne1 e.symm
  have hq2 : w.heap.size ≤ w.heap.size + 1 ∧ w.heap.size + 1 ≠ B := ⟨by omega, hq1⟩
  have hbx := @box_any W a b ha hb
  have hst := @stamp_any W B s a b now kd x0 x1 x2 x3 HW ha hb hacc
  have he := mfull_any HW hi
  have hps := fun {V : World} {m : MsgV} (HV : NetAt V B s) => @push_any V B s (a * 4 + b) h n m HV hi eh hh en hn hacc
  rw [en, decide_eq_false (by omega)] at he
  generalize hm : (⟨a, b, kd, (s.box (a * 4 + b)).acc + 1, now, x0, x1, x2, x3⟩ : MsgV) = m at *
  generalize hI : a * 4 + b = i at *
  have j0 : (0 : Int) ≤ i := by omega
  have j1 : (i : Int) < 16 := by omega
  go_enter Tryz.func182, Tryz.ntmps182
  go_wp2_with fail
  refine hbx.mono ?_
  rintro e w1 ⟨rfl, rfl⟩
  go_wp2_with fail
  refine he.mono ?_
  rintro e w1 ⟨rfl, rfl⟩
  go_wp2_with fail
  refine hst.mono ?_
  rintro e w2 ⟨rfl, hb2⟩
  have hs2 := hb2.size
  unfold msgV
  generalize hV : w2.alloc (.cells #[.int .i64 m.mf, .int .i64 m.mt, .int .u32 m.md, .int .u64 m.mq, .int .u64 m.ma, .int .u64 m.x0, .int .u64 m.x1, .int .u64 m.x2, .int .u64 m.x3] 40) = V
  have hb3 : Below w2.heap.size w2 V := by rw [← hV]; exact one_alloc _ _
  have N7 : Nine V w2.heap.size m := by rw [← hV]; refine ⟨?_, ?_, ?_, ?_, ?_, ?_, ?_, ?_, ?_, fun o => ?_⟩ <;> simp
  have hbV := chain hb2 hb3
  have NV := N0.below hbV
  have HV : NetAt V B s := HW.mut (Mut.of_below (lo := 0) (hi := 0) hbV (by omega)) (by omega)
  have MV : Mut B 1939 6596 w V := (Mut.of_below hb0 hlt).trans (Mut.of_below hbV (by omega))
  have h7 : ¬ (w2.heap.size = w.heap.size + 1) := by omega
  have h7' : ¬ (w.heap.size + 1 = w2.heap.size) := by omega
  have h7B : w2.heap.size ≠ B := by omega
  obtain ⟨y0, y1, y2, y3, y4, y5, y6, y7, y8, _⟩ := N7
  clear hb2 hb3 hbV HW N0 he hb0 v0 v1 v2 v3 hbx hst
  go_wp2_with fail
  clear y0 y1 y2 y3 y4 y5 y6 y7 y8
  have N7 : Nine V w2.heap.size m := by rw [← hV]; refine ⟨?_, ?_, ?_, ?_, ?_, ?_, ?_, ?_, ?_, fun o => ?_⟩ <;> simp
  clear hV
  refine (hps (m := m) HV).mono ?_
  rintro e w3 ⟨rfl, H3, M3⟩
  obtain ⟨y0, y1, y2, y3, y4, y5, y6, y7, y8, _⟩ := N7.mut M3 h7B
  obtain ⟨z0, z1, z2, z3, z4, z5, z6, z7, z8, fz⟩ := NV.mut M3 hq1
  have cb := H3.bus
  have fB := H3.frz
  have M4 := MV.trans M3
  clear N7 NV HV MV M3
  go_wp2
  exact bodyPost_ret (v := .tuple #[msgV m, .bool true]) (by simp [msgV, results, Tryz.results182, go_sem, z0, z1, z2, z3, z4, z5, z6, z7, z8, h7']) rfl
    ⟨rfl, ((((((((((H3.putBusy _).other ⟨w.heap.size + 1, 0, none⟩ hq1 _).other ⟨w.heap.size + 1, 1, none⟩ hq1 _).other ⟨w.heap.size + 1, 2, none⟩ hq1 _).other ⟨w.heap.size + 1, 3, none⟩ hq1 _).other ⟨w.heap.size + 1, 4, none⟩ hq1 _).other ⟨w.heap.size + 1, 5, none⟩ hq1 _).other ⟨w.heap.size + 1, 6, none⟩ hq1 _).other ⟨w.heap.size + 1, 7, none⟩ hq1 _).other ⟨w.heap.size + 1, 8, none⟩ hq1 _), ((((((((((M4.setCell (by omega) (by omega) _).fresh ⟨w.heap.size + 1, 0, none⟩ hq2 _).fresh ⟨w.heap.size + 1, 1, none⟩ hq2 _).fresh ⟨w.heap.size + 1, 2, none⟩ hq2 _).fresh ⟨w.heap.size + 1, 3, none⟩ hq2 _).fresh ⟨w.heap.size + 1, 4, none⟩ hq2 _).fresh ⟨w.heap.size + 1, 5, none⟩ hq2 _).fresh ⟨w.heap.size + 1, 6, none⟩ hq2 _).fresh ⟨w.heap.size + 1, 7, none⟩ hq2 _).fresh ⟨w.heap.size + 1, 8, none⟩ hq2 _)⟩
end Go.Proofs.Qxb6500877aGreatDoor
