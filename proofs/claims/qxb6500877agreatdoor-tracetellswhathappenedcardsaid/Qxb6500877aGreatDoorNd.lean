import Derived.Test.Qxb6500877aGreatDoorNc
set_option linter.unusedVariables false
set_option linter.unusedSimpArgs false
namespace Go.Proofs.Qxb6500877aGreatDoor
open Go.RowKit

def andBusy (m : Int) (i : Nat) : Int := bits .andNot .u16 m (IntKind.u16.wrap (2 ^ i))
def orBusy (m : Int) (i : Nat) : Int := bits .or .u16 m (IntKind.u16.wrap (2 ^ i))
def popF (s : Net) (i h n : Nat) : Net := s.setBox i ((((s.box i).pMsg h msg0).pHead (plc h 1)).pN (n - 1))
def deliverF (s : Net) (i h n : Nat) : Net := if n = 1 then (popF s i h n).setBusy (andBusy s.busy i) else popF s i h n

set_option maxHeartbeats 4000000 in
theorem deliver_empty {w : World} {B : Nat} {s : Net} {i : Nat} (H : NetAt w B s) (hi : i < 16) (en : (s.box i).n = 0) :
    Calls Tryz.prog 132 #[.pointer (some ⟨B, 1939, none⟩), .int .i64 (i : Int)] w fun e w' => e = .returned (.tuple #[msgV msg0, .bool false]) ∧ NetAt w' B s ∧ Mut B 1939 6596 w w' := by
  have hlt : B < w.heap.size := World.block_lt_of_cell? _ _ (H.ctl hi).1
  generalize hW : w.alloc (.cells #[.int .i64 0, .int .i64 0, .int .u32 0, .int .u64 0, .int .u64 0, .int .u64 0, .int .u64 0, .int .u64 0, .int .u64 0] 40) = W at *
  have hb0 : Below w.heap.size w W := by rw [← hW]; exact one_alloc _ _
  have hsz : W.heap.size = w.heap.size + 1 := by rw [← hW]; simp
  have N0 : Nine W w.heap.size msg0 := by rw [← hW]; refine ⟨?_, ?_, ?_, ?_, ?_, ?_, ?_, ?_, ?_, fun o => ?_⟩ <;> simp [msg0]
  have HW : NetAt W B s := H.mut (Mut.of_below (lo := 0) (hi := 0) hb0 hlt) (by omega)
  have hne : ¬ (B = w.heap.size) := by omega
  have hq1 : w.heap.size ≠ B := fun e => hne e.symm
  have hq2 : w.heap.size ≤ w.heap.size ∧ w.heap.size ≠ B := ⟨Nat.le_refl _, hq1⟩
  have j0 : (0 : Int) ≤ i := by omega
  have j1 : (i : Int) < 16 := by omega
  have he := empty_any HW hi
  rw [en] at he
  go_enter Tryz.func132, Tryz.ntmps132
  go_wp2_with fail
  refine he.mono ?_
  rintro e w1 ⟨rfl, rfl⟩
  obtain ⟨z0, z1, z2, z3, z4, z5, z6, z7, z8, fz⟩ := N0
  go_wp2
  exact bodyPost_ret (v := .tuple #[msgV msg0, .bool false]) (by simp [msgV, msg0, results, Tryz.results132, go_sem, z0, z1, z2, z3, z4, z5, z6, z7, z8]) rfl
    ⟨rfl, (((((((((HW.other ⟨w.heap.size, 0, none⟩ hq1 _).other ⟨w.heap.size, 1, none⟩ hq1 _).other ⟨w.heap.size, 2, none⟩ hq1 _).other ⟨w.heap.size, 3, none⟩ hq1 _).other ⟨w.heap.size, 4, none⟩ hq1 _).other ⟨w.heap.size, 5, none⟩ hq1 _).other ⟨w.heap.size, 6, none⟩ hq1 _).other ⟨w.heap.size, 7, none⟩ hq1 _).other ⟨w.heap.size, 8, none⟩ hq1 _), ((((((((((Mut.of_below hb0 hlt).fresh ⟨w.heap.size, 0, none⟩ hq2 _).fresh ⟨w.heap.size, 1, none⟩ hq2 _).fresh ⟨w.heap.size, 2, none⟩ hq2 _).fresh ⟨w.heap.size, 3, none⟩ hq2 _).fresh ⟨w.heap.size, 4, none⟩ hq2 _).fresh ⟨w.heap.size, 5, none⟩ hq2 _).fresh ⟨w.heap.size, 6, none⟩ hq2 _).fresh ⟨w.heap.size, 7, none⟩ hq2 _).fresh ⟨w.heap.size, 8, none⟩ hq2 _)⟩

set_option maxHeartbeats 4000000 in
theorem deliver_some {w : World} {B : Nat} {s : Net} {i h n : Nat} (H : NetAt w B s) (hi : i < 16) (eh : (s.box i).head = h) (hh : h < 32) (en : (s.box i).n = n) (hn : 0 < n ∧ n ≤ 32) :
    Calls Tryz.prog 132 #[.pointer (some ⟨B, 1939, none⟩), .int .i64 (i : Int)] w fun e w' => e = .returned (.tuple #[msgV ((s.box i).ring h), .bool true]) ∧ NetAt w' B (deliverF s i h n) ∧ Mut B 1939 6596 w w' := by
  have hlt : B < w.heap.size := World.block_lt_of_cell? _ _ (H.ctl hi).1
  generalize hW : w.alloc (.cells #[.int .i64 0, .int .i64 0, .int .u32 0, .int .u64 0, .int .u64 0, .int .u64 0, .int .u64 0, .int .u64 0, .int .u64 0] 40) = W at *
  have hb0 : Below w.heap.size w W := by rw [← hW]; exact one_alloc _ _
  have hsz : W.heap.size = w.heap.size + 1 := by rw [← hW]; simp
  have N0 : Nine W w.heap.size msg0 := by rw [← hW]; refine ⟨?_, ?_, ?_, ?_, ?_, ?_, ?_, ?_, ?_, fun o => ?_⟩ <;> simp [msg0]
  have HW : NetAt W B s := H.mut (Mut.of_below (lo := 0) (hi := 0) hb0 hlt) (by omega)
  have hne : ¬ (B = w.heap.size) := by omega
  have hq1 : w.heap.size ≠ B := fun e => hne e.symm
  have hq2 : w.heap.size ≤ w.heap.size ∧ w.heap.size ≠ B := ⟨Nat.le_refl _, hq1⟩
  have j0 : (0 : Int) ≤ i := by omega
  have j1 : (i : Int) < 16 := by omega
  have he := empty_any HW hi
  rw [en, decide_eq_false (by omega)] at he
  go_enter Tryz.func132, Tryz.ntmps132
  go_wp2_with fail
  refine he.mono ?_
  rintro e w1 ⟨rfl, rfl⟩
  go_wp2_with fail
  refine (pop_any HW hi eh hh en hn).mono ?_
  rintro e w2 ⟨rfl, H2, M2⟩
  have N2 := N0.mut M2 hq1
  have hs2 := M2.size
  generalize hm : (s.box i).ring h = m
  unfold msgV
  generalize hV : w2.alloc (.cells #[.int .i64 m.mf, .int .i64 m.mt, .int .u32 m.md, .int .u64 m.mq, .int .u64 m.ma, .int .u64 m.x0, .int .u64 m.x1, .int .u64 m.x2, .int .u64 m.x3] 40) = V
  have hb2 : Below w2.heap.size w2 V := by rw [← hV]; exact one_alloc _ _
  have N7 : Nine V w2.heap.size m := by rw [← hV]; refine ⟨?_, ?_, ?_, ?_, ?_, ?_, ?_, ?_, ?_, fun o => ?_⟩ <;> simp
  have NV := N2.below hb2
  have HV : NetAt V B (popF s i h n) := H2.mut (Mut.of_below (lo := 0) (hi := 0) hb2 (by omega)) (by omega)
  have MV : Mut B 1939 6596 w V := ((Mut.of_below hb0 hlt).trans M2).trans (Mut.of_below hb2 (by omega))
  have he2 := empty_any HV hi
  have en2 : ((popF s i h n).box i).n = (n : Int) - 1 := by rw [popF, Net.setBox_box]; rfl
  rw [en2] at he2
  have h7 : ¬ (w2.heap.size = w.heap.size) := by omega
  have h7' : ¬ (w.heap.size = w2.heap.size) := by omega
  have h7B : ¬ (w2.heap.size = B) := by omega
  clear H2 M2 N2 hb2 HW N0 he hb0
  go_wp2_with fail
  refine he2.mono ?_
  rintro e w3 ⟨rfl, rfl⟩
  obtain ⟨y0, y1, y2, y3, y4, y5, y6, y7, y8, _⟩ := N7
  obtain ⟨z0, z1, z2, z3, z4, z5, z6, z7, z8, fz⟩ := NV
  have cb := HV.bus
  have eb : (popF s i h n).busy = s.busy := rfl
  rw [eb] at cb
  have fB := HV.frz
  by_cases h1 : n = 1
  · have hd : decide ((n : Int) - 1 = 0) = true := by simp; omega
    rw [hd]
    have hdF : deliverF s i h n = (popF s i h n).setBusy (andBusy s.busy i) := if_pos h1
    go_wp2
    refine bodyPost_ret (v := .tuple #[msgV m, .bool true]) (by simp [msgV, results, Tryz.results132, go_sem, z0, z1, z2, z3, z4, z5, z6, z7, z8, h7']) rfl ?_
    rw [hdF, hm]
    exact ⟨rfl, ((((((((((HV.putBusy _).other ⟨w.heap.size, 0, none⟩ hq1 _).other ⟨w.heap.size, 1, none⟩ hq1 _).other ⟨w.heap.size, 2, none⟩ hq1 _).other ⟨w.heap.size, 3, none⟩ hq1 _).other ⟨w.heap.size, 4, none⟩ hq1 _).other ⟨w.heap.size, 5, none⟩ hq1 _).other ⟨w.heap.size, 6, none⟩ hq1 _).other ⟨w.heap.size, 7, none⟩ hq1 _).other ⟨w.heap.size, 8, none⟩ hq1 _), ((((((((((MV.setCell (by omega) (by omega) _).fresh ⟨w.heap.size, 0, none⟩ hq2 _).fresh ⟨w.heap.size, 1, none⟩ hq2 _).fresh ⟨w.heap.size, 2, none⟩ hq2 _).fresh ⟨w.heap.size, 3, none⟩ hq2 _).fresh ⟨w.heap.size, 4, none⟩ hq2 _).fresh ⟨w.heap.size, 5, none⟩ hq2 _).fresh ⟨w.heap.size, 6, none⟩ hq2 _).fresh ⟨w.heap.size, 7, none⟩ hq2 _).fresh ⟨w.heap.size, 8, none⟩ hq2 _)⟩
  · have hd : decide ((n : Int) - 1 = 0) = false := by simp; omega
    rw [hd]
    have hdF : deliverF s i h n = popF s i h n := if_neg h1
    go_wp2
    refine bodyPost_ret (v := .tuple #[msgV m, .bool true]) (by simp [msgV, results, Tryz.results132, go_sem, z0, z1, z2, z3, z4, z5, z6, z7, z8, h7']) rfl ?_
    rw [hdF, hm]
    exact ⟨rfl, (((((((((HV.other ⟨w.heap.size, 0, none⟩ hq1 _).other ⟨w.heap.size, 1, none⟩ hq1 _).other ⟨w.heap.size, 2, none⟩ hq1 _).other ⟨w.heap.size, 3, none⟩ hq1 _).other ⟨w.heap.size, 4, none⟩ hq1 _).other ⟨w.heap.size, 5, none⟩ hq1 _).other ⟨w.heap.size, 6, none⟩ hq1 _).other ⟨w.heap.size, 7, none⟩ hq1 _).other ⟨w.heap.size, 8, none⟩ hq1 _), (((((((((MV.fresh ⟨w.heap.size, 0, none⟩ hq2 _).fresh ⟨w.heap.size, 1, none⟩ hq2 _).fresh ⟨w.heap.size, 2, none⟩ hq2 _).fresh ⟨w.heap.size, 3, none⟩ hq2 _).fresh ⟨w.heap.size, 4, none⟩ hq2 _).fresh ⟨w.heap.size, 5, none⟩ hq2 _).fresh ⟨w.heap.size, 6, none⟩ hq2 _).fresh ⟨w.heap.size, 7, none⟩ hq2 _).fresh ⟨w.heap.size, 8, none⟩ hq2 _)⟩
end Go.Proofs.Qxb6500877aGreatDoor
