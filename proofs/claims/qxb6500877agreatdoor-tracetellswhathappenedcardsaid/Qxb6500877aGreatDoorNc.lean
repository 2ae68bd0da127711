import Derived.Test.Qxb6500877aGreatDoorNb
set_option linter.unusedVariables false
set_option linter.unusedSimpArgs false
namespace Go.Proofs.Qxb6500877aGreatDoor
open Go.RowKit

def msg0 : MsgV := ⟨0, 0, 0, 0, 0, 0, 0, 0, 0⟩

theorem NetAt.other {w : World} {B : Nat} {s : Net} (h : NetAt w B s) (q : Addr) (hq : q.block ≠ B) (v : Value) : NetAt (w.setCell q v) B s :=
  ⟨fun o ho => by rw [World.cell?_setCell_far _ _ _ _ hq]; exact h.cell o ho, fun o => by simpa using h.frz o⟩
theorem Mut.fresh {b lo hi : Nat} {w w' : World} (h : Mut b lo hi w w') (q : Addr) (hq : w.heap.size ≤ q.block ∧ q.block ≠ b) (v : Value) : Mut b lo hi w (w'.setCell q v) :=
  ⟨h.os, h.tape, h.output, by simpa using h.size, fun k hk hb => by
    rw [← h.block k hk hb]
    simp only [World.setCell, Array.getElem?_modify]
    rw [if_neg (by omega)], fun o => by rw [← h.frz o]; exact World.frozen?_setCell _ _ _ _, fun o ho => by rw [← h.cell o ho]; exact World.cell?_setCell_far _ _ _ _ hq.2⟩

/-- Nine cells at a block's head, that may be written. -/
structure Nine (w : World) (b : Nat) (m : MsgV) : Prop where
  c0 : w.cell? ⟨b, 0, none⟩ = some (.int .i64 m.mf)
  c1 : w.cell? ⟨b, 1, none⟩ = some (.int .i64 m.mt)
  c2 : w.cell? ⟨b, 2, none⟩ = some (.int .u32 m.md)
  c3 : w.cell? ⟨b, 3, none⟩ = some (.int .u64 m.mq)
  c4 : w.cell? ⟨b, 4, none⟩ = some (.int .u64 m.ma)
  c5 : w.cell? ⟨b, 5, none⟩ = some (.int .u64 m.x0)
  c6 : w.cell? ⟨b, 6, none⟩ = some (.int .u64 m.x1)
  c7 : w.cell? ⟨b, 7, none⟩ = some (.int .u64 m.x2)
  c8 : w.cell? ⟨b, 8, none⟩ = some (.int .u64 m.x3)
  fz : ∀ o, w.frozen? ⟨b, o, none⟩ = false
theorem Nine.below {w w' : World} {b : Nat} {m : MsgV} (h : Nine w b m) (hb : Below w.heap.size w w') : Nine w' b m := by
  have hlt : b < w.heap.size := World.block_lt_of_cell? _ _ h.c0
  exact ⟨cell_later hb h.c0, cell_later hb h.c1, cell_later hb h.c2, cell_later hb h.c3, cell_later hb h.c4, cell_later hb h.c5, cell_later hb h.c6, cell_later hb h.c7, cell_later hb h.c8, fun o => (hb.frozen (p := ⟨b, o, none⟩) hlt).trans (h.fz o)⟩
theorem Nine.mut {w w' : World} {b B lo hi : Nat} {m : MsgV} (h : Nine w b m) (hb : Mut B lo hi w w') (hne : b ≠ B) : Nine w' b m := by
  have hlt : b < w.heap.size := World.block_lt_of_cell? _ _ h.c0
  have e := hb.block b hlt hne
  exact ⟨hb.far hne h.c0, hb.far hne h.c1, hb.far hne h.c2, hb.far hne h.c3, hb.far hne h.c4, hb.far hne h.c5, hb.far hne h.c6, hb.far hne h.c7, hb.far hne h.c8, fun o => (World.frozen?_of_block (a := ⟨b, o, none⟩) e).trans (h.fz o)⟩

set_option maxHeartbeats 4000000 in
theorem pop_any {w : World} {B : Nat} {s : Net} {i h n : Nat} (H : NetAt w B s) (hi : i < 16) (eh : (s.box i).head = h) (hh : h < 32) (en : (s.box i).n = n) (hn : 0 < n ∧ n ≤ 32) :
    Calls Tryz.prog 180 #[.pointer (some ⟨B, 1939 + i * 291, none⟩)] w fun e w' => e = .returned (msgV ((s.box i).ring h)) ∧ NetAt w' B (s.setBox i ((((s.box i).pMsg h msg0).pHead (plc h 1)).pN (n - 1))) ∧ Mut B 1939 6596 w w' := by
  have hlt : B < w.heap.size := World.block_lt_of_cell? _ _ (H.ctl hi).1
  generalize hW : w.alloc (.cells #[.int .i64 0, .int .i64 0, .int .u32 0, .int .u64 0, .int .u64 0, .int .u64 0, .int .u64 0, .int .u64 0, .int .u64 0] 40) = W at *
  have hb0 : Below w.heap.size w W := by rw [← hW]; exact one_alloc _ _
  have hsz : W.heap.size = w.heap.size + 1 := by rw [← hW]; simp
  have N0 : Nine W w.heap.size msg0 := by rw [← hW]; refine ⟨?_, ?_, ?_, ?_, ?_, ?_, ?_, ?_, ?_, fun o => ?_⟩ <;> simp [msg0]
  have HW : NetAt W B s := H.mut (Mut.of_below (lo := 0) (hi := 0) hb0 hlt) (by omega)
  obtain ⟨c0, c1, c2⟩ := HW.ctl hi
  obtain ⟨z0, z1, z2, z3, z4, z5, z6, z7, z8⟩ := HW.msg hi hh
  rw [eh] at c0
  have j0 : (0 : Int) ≤ h := by omega
  have j1 : (h : Int) < 32 := by omega
  have hne : ¬ (B = w.heap.size) := by omega
  have hne1 : ¬ (B = w.heap.size + 1) := by omega
  have f0 : W.drew.cell? ⟨B, 1939 + i * 291 + 288, none⟩ = some (.int .i64 (h : Int)) := c0
  have g0 : W.drew.cell? ⟨B, 1939 + i * 291 + h * 9, none⟩ = some (.int .i64 ((s.box i).ring h).mf) := z0
  have g1 : W.drew.cell? ⟨B, 1939 + i * 291 + h * 9 + 1, none⟩ = some (.int .i64 ((s.box i).ring h).mt) := z1
  have g2 : W.drew.cell? ⟨B, 1939 + i * 291 + h * 9 + 2, none⟩ = some (.int .u32 ((s.box i).ring h).md) := z2
  have g3 : W.drew.cell? ⟨B, 1939 + i * 291 + h * 9 + 3, none⟩ = some (.int .u64 ((s.box i).ring h).mq) := z3
  have g4 : W.drew.cell? ⟨B, 1939 + i * 291 + h * 9 + 4, none⟩ = some (.int .u64 ((s.box i).ring h).ma) := z4
  have g5 : W.drew.cell? ⟨B, 1939 + i * 291 + h * 9 + 5, none⟩ = some (.int .u64 ((s.box i).ring h).x0) := z5
  have g6 : W.drew.cell? ⟨B, 1939 + i * 291 + h * 9 + 6, none⟩ = some (.int .u64 ((s.box i).ring h).x1) := z6
  have g7 : W.drew.cell? ⟨B, 1939 + i * 291 + h * 9 + 7, none⟩ = some (.int .u64 ((s.box i).ring h).x2) := z7
  have g8 : W.drew.cell? ⟨B, 1939 + i * 291 + h * 9 + 8, none⟩ = some (.int .u64 ((s.box i).ring h).x3) := z8
  go_enter Tryz.func180, Tryz.ntmps180
  go_upto_region 1 with fail
  go_cut [3] (fun s3 wc => ∃ b3, s3 = .pointer (some ⟨b3, 0, none⟩) ∧ Nine wc b3 ((s.box i).ring h) ∧ b3 ≠ B ∧ b3 ≠ w.heap.size ∧ Below W.heap.size W wc)
  case first =>
    go_region_held3 (fun w' => w'.cell? ⟨B, 1939 + i * 291 + 288, none⟩ = some (.int .i64 (h : Int)) ∧ w'.cell? ⟨B, 1939 + i * 291 + h * 9, none⟩ = some (.int .i64 ((s.box i).ring h).mf) ∧ w'.cell? ⟨B, 1939 + i * 291 + h * 9 + 1, none⟩ = some (.int .i64 ((s.box i).ring h).mt) ∧ w'.cell? ⟨B, 1939 + i * 291 + h * 9 + 2, none⟩ = some (.int .u32 ((s.box i).ring h).md) ∧ w'.cell? ⟨B, 1939 + i * 291 + h * 9 + 3, none⟩ = some (.int .u64 ((s.box i).ring h).mq) ∧ w'.cell? ⟨B, 1939 + i * 291 + h * 9 + 4, none⟩ = some (.int .u64 ((s.box i).ring h).ma) ∧ w'.cell? ⟨B, 1939 + i * 291 + h * 9 + 5, none⟩ = some (.int .u64 ((s.box i).ring h).x0) ∧ w'.cell? ⟨B, 1939 + i * 291 + h * 9 + 6, none⟩ = some (.int .u64 ((s.box i).ring h).x1) ∧ w'.cell? ⟨B, 1939 + i * 291 + h * 9 + 7, none⟩ = some (.int .u64 ((s.box i).ring h).x2) ∧ w'.cell? ⟨B, 1939 + i * 291 + h * 9 + 8, none⟩ = some (.int .u64 ((s.box i).ring h).x3))
      (first | with_reducible exact ⟨f0, g0, g1, g2, g3, g4, g5, g6, g7, g8⟩ | exact ⟨cell_later (one_alloc _ _) f0, cell_later (one_alloc _ _) g0, cell_later (one_alloc _ _) g1, cell_later (one_alloc _ _) g2, cell_later (one_alloc _ _) g3, cell_later (one_alloc _ _) g4, cell_later (one_alloc _ _) g5, cell_later (one_alloc _ _) g6, cell_later (one_alloc _ _) g7, cell_later (one_alloc _ _) g8⟩)
      (fail)
    all_goals go_wp2
    all_goals go_meet
    all_goals case rel => exact ⟨_, rfl, ⟨by rw [← hsz]; simp, by rw [← hsz]; simp, by rw [← hsz]; simp, by rw [← hsz]; simp, by rw [← hsz]; simp, by rw [← hsz]; simp, by rw [← hsz]; simp, by rw [← hsz]; simp, by rw [← hsz]; simp, fun o => by rw [← hsz]; simp⟩, by omega, by omega, (one_alloc _ _).trans (Below.refl _ _).drew⟩
  case rest =>
    obtain ⟨b3, rfl, N3, hb3, hb3', hbc⟩ := hcut
    have HC : NetAt wc B s := HW.mut (Mut.of_below (lo := 0) (hi := 0) hbc (by omega)) (by omega)
    have N0' := N0.below hbc
    have M0 : Mut B 1939 6596 w wc := (Mut.of_below hb0 hlt).trans (Mut.of_below hbc (by omega))
    clear c0 c1 c2 z0 z1 z2 z3 z4 z5 z6 z7 z8 f0 g0 g1 g2 g3 g4 g5 g6 g7 g8 N0 HW hbc hb0 H
    obtain ⟨c0, c1, c2⟩ := HC.ctl hi
    obtain ⟨z0, z1, z2, z3, z4, z5, z6, z7, z8⟩ := HC.msg hi hh
    have fz := HC.frz
    rw [eh] at c0
    rw [en] at c1
    have f0 : wc.drew.cell? ⟨B, 1939 + i * 291 + 288, none⟩ = some (.int .i64 (h : Int)) := c0
    have n0 : ¬ (1939 + i * 291 + h * 9 = 1939 + i * 291 + 288) := by omega
    have n1 : ¬ (1939 + i * 291 + 288 = 1939 + i * 291 + h * 9) := by omega
    have n2 : ¬ (1939 + i * 291 + h * 9 = 1939 + i * 291 + 289) := by omega
    have n3 : ¬ (1939 + i * 291 + 289 = 1939 + i * 291 + h * 9) := by omega
    have n4 : ¬ (1939 + i * 291 + h * 9 + 1 = 1939 + i * 291 + 288) := by omega
    have n5 : ¬ (1939 + i * 291 + 288 = 1939 + i * 291 + h * 9 + 1) := by omega
    have n6 : ¬ (1939 + i * 291 + h * 9 + 1 = 1939 + i * 291 + 289) := by omega
    have n7 : ¬ (1939 + i * 291 + 289 = 1939 + i * 291 + h * 9 + 1) := by omega
    have n8 : ¬ (1939 + i * 291 + h * 9 + 2 = 1939 + i * 291 + 288) := by omega
    have n9 : ¬ (1939 + i * 291 + 288 = 1939 + i * 291 + h * 9 + 2) := by omega
    have n10 : ¬ (1939 + i * 291 + h * 9 + 2 = 1939 + i * 291 + 289) := by omega
    have n11 : ¬ (1939 + i * 291 + 289 = 1939 + i * 291 + h * 9 + 2) := by omega
    have n12 : ¬ (1939 + i * 291 + h * 9 + 3 = 1939 + i * 291 + 288) := by omega
    have n13 : ¬ (1939 + i * 291 + 288 = 1939 + i * 291 + h * 9 + 3) := by omega
    have n14 : ¬ (1939 + i * 291 + h * 9 + 3 = 1939 + i * 291 + 289) := by omega
    have n15 : ¬ (1939 + i * 291 + 289 = 1939 + i * 291 + h * 9 + 3) := by omega
    have n16 : ¬ (1939 + i * 291 + h * 9 + 4 = 1939 + i * 291 + 288) := by omega
    have n17 : ¬ (1939 + i * 291 + 288 = 1939 + i * 291 + h * 9 + 4) := by omega
    have n18 : ¬ (1939 + i * 291 + h * 9 + 4 = 1939 + i * 291 + 289) := by omega
    have n19 : ¬ (1939 + i * 291 + 289 = 1939 + i * 291 + h * 9 + 4) := by omega
    have n20 : ¬ (1939 + i * 291 + h * 9 + 5 = 1939 + i * 291 + 288) := by omega
    have n21 : ¬ (1939 + i * 291 + 288 = 1939 + i * 291 + h * 9 + 5) := by omega
    have n22 : ¬ (1939 + i * 291 + h * 9 + 5 = 1939 + i * 291 + 289) := by omega
    have n23 : ¬ (1939 + i * 291 + 289 = 1939 + i * 291 + h * 9 + 5) := by omega
    have n24 : ¬ (1939 + i * 291 + h * 9 + 6 = 1939 + i * 291 + 288) := by omega
    have n25 : ¬ (1939 + i * 291 + 288 = 1939 + i * 291 + h * 9 + 6) := by omega
    have n26 : ¬ (1939 + i * 291 + h * 9 + 6 = 1939 + i * 291 + 289) := by omega
    have n27 : ¬ (1939 + i * 291 + 289 = 1939 + i * 291 + h * 9 + 6) := by omega
    have n28 : ¬ (1939 + i * 291 + h * 9 + 7 = 1939 + i * 291 + 288) := by omega
    have n29 : ¬ (1939 + i * 291 + 288 = 1939 + i * 291 + h * 9 + 7) := by omega
    have n30 : ¬ (1939 + i * 291 + h * 9 + 7 = 1939 + i * 291 + 289) := by omega
    have n31 : ¬ (1939 + i * 291 + 289 = 1939 + i * 291 + h * 9 + 7) := by omega
    have n32 : ¬ (1939 + i * 291 + h * 9 + 8 = 1939 + i * 291 + 288) := by omega
    have n33 : ¬ (1939 + i * 291 + 288 = 1939 + i * 291 + h * 9 + 8) := by omega
    have n34 : ¬ (1939 + i * 291 + h * 9 + 8 = 1939 + i * 291 + 289) := by omega
    have n35 : ¬ (1939 + i * 291 + 289 = 1939 + i * 291 + h * 9 + 8) := by omega
    have n36 : ¬ (1939 + i * 291 + 288 = 1939 + i * 291 + 289) := by omega
    have n37 : ¬ (1939 + i * 291 + 289 = 1939 + i * 291 + 288) := by omega
    go_upto_region 2 with fail
    go_cut [] (fun wd => NetAt wd B (s.setBox i ((s.box i).pMsg h msg0)) ∧ Mut B 1939 6596 w wd ∧ Nine wd b3 ((s.box i).ring h) ∧ Nine wd w.heap.size msg0)
    case first =>
      go_region_held3 (fun w' => w'.cell? ⟨B, 1939 + i * 291 + 288, none⟩ = some (.int .i64 (h : Int)))
        (first | with_reducible exact f0 | go_simp)
        (fail)
      all_goals go_wp2
      all_goals go_meet
      all_goals case rel => exact ⟨(HC.putMsg hi hh msg0).drew, M0.trans ((((((((((Mut.refl B 1939 6596 _).setCell (by omega) (by omega) _).setCell (by omega) (by omega) _).setCell (by omega) (by omega) _).setCell (by omega) (by omega) _).setCell (by omega) (by omega) _).setCell (by omega) (by omega) _).setCell (by omega) (by omega) _).setCell (by omega) (by omega) _).setCell (by omega) (by omega) _).drew, N3.mut ((((((((((Mut.refl B 1939 6596 _).setCell (by omega) (by omega) _).setCell (by omega) (by omega) _).setCell (by omega) (by omega) _).setCell (by omega) (by omega) _).setCell (by omega) (by omega) _).setCell (by omega) (by omega) _).setCell (by omega) (by omega) _).setCell (by omega) (by omega) _).setCell (by omega) (by omega) _).drew hb3, N0'.mut ((((((((((Mut.refl B 1939 6596 _).setCell (by omega) (by omega) _).setCell (by omega) (by omega) _).setCell (by omega) (by omega) _).setCell (by omega) (by omega) _).setCell (by omega) (by omega) _).setCell (by omega) (by omega) _).setCell (by omega) (by omega) _).setCell (by omega) (by omega) _).setCell (by omega) (by omega) _).drew (fun e => hne e.symm)⟩
    case rest =>
      clear c0 c1 c2 z0 z1 z2 z3 z4 z5 z6 z7 z8 f0 fz HC N0' N3 M0
      obtain ⟨HD, MD, N3, N0⟩ := hcut
      go_wp2_with fail
      refine (mplace_any HD hi (by rw [Net.setBox_box]; exact eh) hh (j := 1) (by omega)).mono ?_
      rintro e w1 ⟨rfl, rfl⟩
      obtain ⟨c0, c1, c2⟩ := HD.ctl hi
      rw [Net.setBox_box] at c0 c1 c2
      have e1 : ((s.box i).pMsg h msg0).n = n := en
      rw [e1] at c1
      have fz := HD.frz
      go_upto_region 4 with fail
      go_cut [] (fun we => NetAt we B (s.setBox i ((((s.box i).pMsg h msg0).pHead (plc h 1)).pN (n - 1))) ∧ Mut B 1939 6596 w we ∧ Nine we b3 ((s.box i).ring h) ∧ Nine we w.heap.size msg0)
      case first =>
        go_wp2
        go_meet
        case rel =>
          have R := (HD.putHead hi ((plc h 1 : Nat) : Int)).putN hi ((n : Int) - 1)
          rw [Net.setBox_box, Net.setBox_twice, Net.setBox_box, Net.setBox_twice] at R
          exact ⟨R, MD.trans (((Mut.refl B 1939 6596 _).setCell (by omega) (by omega) _).setCell (by omega) (by omega) _), N3.mut (((Mut.refl B 1939 6596 _).setCell (by omega) (by omega) _).setCell (by omega) (by omega) _) hb3, N0.mut (((Mut.refl B 1939 6596 _).setCell (by omega) (by omega) _).setCell (by omega) (by omega) _) (fun e => hne e.symm)⟩
      case rest =>
        clear c0 c1 c2 fz HD MD N3 N0
        obtain ⟨HE, ME, N3, N0⟩ := hcut
        obtain ⟨y0, y1, y2, y3, y4, y5, y6, y7, y8, _⟩ := N3
        obtain ⟨z0, z1, z2, z3, z4, z5, z6, z7, z8, fz⟩ := N0
        have hbn : ¬ (w.heap.size = b3) := fun e => hb3' e.symm
        have hbn' : ¬ (b3 = w.heap.size) := hb3'
        have hq1 : w.heap.size ≠ B := fun e => hne e.symm
        have hq2 : w.heap.size ≤ w.heap.size ∧ w.heap.size ≠ B := ⟨Nat.le_refl _, hq1⟩
        go_wp2
        exact bodyPost_ret (v := msgV ((s.box i).ring h)) (by simp [msgV, results, Tryz.results180, go_sem, z0, z1, z2, z3, z4, z5, z6, z7, z8]) rfl
          ⟨rfl, (((((((((HE.other ⟨w.heap.size, 0, none⟩ hq1 _).other ⟨w.heap.size, 1, none⟩ hq1 _).other ⟨w.heap.size, 2, none⟩ hq1 _).other ⟨w.heap.size, 3, none⟩ hq1 _).other ⟨w.heap.size, 4, none⟩ hq1 _).other ⟨w.heap.size, 5, none⟩ hq1 _).other ⟨w.heap.size, 6, none⟩ hq1 _).other ⟨w.heap.size, 7, none⟩ hq1 _).other ⟨w.heap.size, 8, none⟩ hq1 _), (((((((((ME.fresh ⟨w.heap.size, 0, none⟩ hq2 _).fresh ⟨w.heap.size, 1, none⟩ hq2 _).fresh ⟨w.heap.size, 2, none⟩ hq2 _).fresh ⟨w.heap.size, 3, none⟩ hq2 _).fresh ⟨w.heap.size, 4, none⟩ hq2 _).fresh ⟨w.heap.size, 5, none⟩ hq2 _).fresh ⟨w.heap.size, 6, none⟩ hq2 _).fresh ⟨w.heap.size, 7, none⟩ hq2 _).fresh ⟨w.heap.size, 8, none⟩ hq2 _)⟩
end Go.Proofs.Qxb6500877aGreatDoor
