import Derived.Deep.CutBlock
import Derived.OwnWalk
import Derived.Maps.AppendAt
import Derived.Test.Qxb6500877aGreatDoorTx1
set_option linter.unusedVariables false
set_option linter.unusedSimpArgs false
namespace Go.Proofs.Qxb6500877aGreatDoor
open Go.RowKit

theorem below_set {n : Nat} {w w1 : World} (h : Below n w w1) {q o : Nat} {v : Value} (hq : n ≤ q) : Below n w (w1.setCell ⟨q, o, none⟩ v) :=
  ⟨h.os, h.tape, h.output, by simpa using h.size, fun k hk => (far_set (by omega)).trans (h.block k hk)⟩
set_option maxRecDepth 20000 in
set_option maxHeartbeats 4000000 in
theorem one_117 {w : World} {pb now : Nat} {kk : Int} {p8 : Nat} {c : Int} (HB : Ev9 w pb 0 (bl now 0)) (h0 : w.cell? ⟨p8, 0, none⟩ = some (.int .i64 c)) : Calls Tryz.prog 116 #[.int .u8 kk, .func (.func 117) #[] #[.pointer (some ⟨p8, 0, none⟩)], .pointer (some ⟨pb, 0, none⟩)] w fun x w' => x = .returned (evV ⟨kk, (now : Int), (-1), (-1), 0, (-1), 0, 0, c⟩) ∧ Below w.heap.size w w' := by
  have hpb := HB.lt
  have bb : Below w.heap.size w (World.alloc (World.alloc w (.cells #[.int .u8 0, .int .u64 0, .int .i64 0, .int .i64 0, .int .u64 0, .int .i64 0, .int .u64 0, .int .u8 0, .int .i64 0] 123)) (.cells #[.int .u8 kk, .int .u64 (now : Int), .int .i64 (-1), .int .i64 (-1), .int .u64 0, .int .i64 (-1), .int .u64 0, .int .u8 0, .int .i64 0] 123)) := (one_alloc w _).trans ((one_alloc _ _).mono (by simp))
  have E0 := Ev9.new (World.alloc w (.cells #[.int .u8 0, .int .u64 0, .int .i64 0, .int .i64 0, .int .u64 0, .int .i64 0, .int .u64 0, .int .u8 0, .int .i64 0] 123)) ⟨kk, (now : Int), (-1), (-1), 0, (-1), 0, 0, 0⟩ 123
  have hz0 : (World.alloc w (.cells #[.int .u8 0, .int .u64 0, .int .i64 0, .int .i64 0, .int .u64 0, .int .i64 0, .int .u64 0, .int .u8 0, .int .i64 0] 123)).heap.size = w.heap.size + 1 := by simp
  rw [hz0] at E0
  have ZR := (Ev9.new w ⟨0, 0, 0, 0, 0, 0, 0, 0, 0⟩ 123).blk ((one_alloc (World.alloc w (.cells #[.int .u8 0, .int .u64 0, .int .i64 0, .int .i64 0, .int .u64 0, .int .i64 0, .int .u64 0, .int .u8 0, .int .i64 0] 123)) (.cells #[.int .u8 kk, .int .u64 (now : Int), .int .i64 (-1), .int .i64 (-1), .int .u64 0, .int .i64 (-1), .int .u64 0, .int .u8 0, .int .i64 0] 123)).block w.heap.size (by simp))
  have fz0 : ∀ o, (World.alloc (World.alloc w (.cells #[.int .u8 0, .int .u64 0, .int .i64 0, .int .i64 0, .int .u64 0, .int .i64 0, .int .u64 0, .int .u8 0, .int .i64 0] 123)) (.cells #[.int .u8 kk, .int .u64 (now : Int), .int .i64 (-1), .int .i64 (-1), .int .u64 0, .int .i64 (-1), .int .u64 0, .int .u8 0, .int .i64 0] 123)).frozen? ⟨w.heap.size + 1, o, none⟩ = false := fun o => by rw [← hz0]; simp
  have fz1 : ∀ o, (World.alloc (World.alloc w (.cells #[.int .u8 0, .int .u64 0, .int .i64 0, .int .i64 0, .int .u64 0, .int .i64 0, .int .u64 0, .int .u8 0, .int .i64 0] 123)) (.cells #[.int .u8 kk, .int .u64 (now : Int), .int .i64 (-1), .int .i64 (-1), .int .u64 0, .int .i64 (-1), .int .u64 0, .int .u8 0, .int .i64 0] 123)).frozen? ⟨w.heap.size, o, none⟩ = false := fun o => (World.frozen?_of_block (a := ⟨w.heap.size, o, none⟩) ((one_alloc (World.alloc w (.cells #[.int .u8 0, .int .u64 0, .int .i64 0, .int .i64 0, .int .u64 0, .int .i64 0, .int .u64 0, .int .u8 0, .int .i64 0] 123)) (.cells #[.int .u8 kk, .int .u64 (now : Int), .int .i64 (-1), .int .i64 (-1), .int .u64 0, .int .i64 (-1), .int .u64 0, .int .u8 0, .int .i64 0] 123)).block w.heap.size (by simp))).trans (by simp)
  have lp8 : p8 < w.heap.size := World.block_lt_of_cell? _ _ h0
  have kh0 := (World.cell?_of_block (a := ⟨p8, 0, none⟩) (bb.block p8 lp8)).trans h0
  have hfl := fill_117 E0 fz0 kh0 (by omega)
  obtain ⟨b0, b1, b2, b3, b4, b5, b6, b7, b8⟩ := HB
  unfold bl at b0 b1 b2 b3 b4 b5 b6 b7 b8
  simp only [Nat.zero_add] at b0 b1 b2 b3 b4 b5 b6 b7 b8
  have c0 : ∀ cs, (w.alloc (.cells cs 123)).cell? ⟨pb, 0, none⟩ = some (.int .u8 0) := fun cs => (World.cell?_of_block (a := ⟨pb, 0, none⟩) ((one_alloc w _).block pb hpb)).trans b0
  have c1 : ∀ cs, (w.alloc (.cells cs 123)).cell? ⟨pb, 1, none⟩ = some (.int .u64 (now : Int)) := fun cs => (World.cell?_of_block (a := ⟨pb, 1, none⟩) ((one_alloc w _).block pb hpb)).trans b1
  have c2 : ∀ cs, (w.alloc (.cells cs 123)).cell? ⟨pb, 2, none⟩ = some (.int .i64 (-1)) := fun cs => (World.cell?_of_block (a := ⟨pb, 2, none⟩) ((one_alloc w _).block pb hpb)).trans b2
  have c3 : ∀ cs, (w.alloc (.cells cs 123)).cell? ⟨pb, 3, none⟩ = some (.int .i64 (-1)) := fun cs => (World.cell?_of_block (a := ⟨pb, 3, none⟩) ((one_alloc w _).block pb hpb)).trans b3
  have c4 : ∀ cs, (w.alloc (.cells cs 123)).cell? ⟨pb, 4, none⟩ = some (.int .u64 0) := fun cs => (World.cell?_of_block (a := ⟨pb, 4, none⟩) ((one_alloc w _).block pb hpb)).trans b4
  have c5 : ∀ cs, (w.alloc (.cells cs 123)).cell? ⟨pb, 5, none⟩ = some (.int .i64 (-1)) := fun cs => (World.cell?_of_block (a := ⟨pb, 5, none⟩) ((one_alloc w _).block pb hpb)).trans b5
  have c6 : ∀ cs, (w.alloc (.cells cs 123)).cell? ⟨pb, 6, none⟩ = some (.int .u64 0) := fun cs => (World.cell?_of_block (a := ⟨pb, 6, none⟩) ((one_alloc w _).block pb hpb)).trans b6
  have c7 : ∀ cs, (w.alloc (.cells cs 123)).cell? ⟨pb, 7, none⟩ = some (.int .u8 0) := fun cs => (World.cell?_of_block (a := ⟨pb, 7, none⟩) ((one_alloc w _).block pb hpb)).trans b7
  have c8 : ∀ cs, (w.alloc (.cells cs 123)).cell? ⟨pb, 8, none⟩ = some (.int .i64 0) := fun cs => (World.cell?_of_block (a := ⟨pb, 8, none⟩) ((one_alloc w _).block pb hpb)).trans b8
  have HX := hideIt (And.intro bb (And.intro ZR fz1))
  have HFL := hideIt hfl
  clear hfl E0 fz0 bb ZR fz1 kh0
  unfold evV
  go_enter Tryz.func116, Tryz.ntmps116
  go_upto_region 3 with fail
  have hfl := HFL.out
  obtain ⟨bb, ZR, fz1⟩ := HX.out
  clear HX HFL c0 c1 c2 c3 c4 c5 c6 c7 c8 b0 b1 b2 b3 b4 b5 b6 b7 b8
  generalize (World.alloc (World.alloc w (.cells #[.int .u8 0, .int .u64 0, .int .i64 0, .int .i64 0, .int .u64 0, .int .i64 0, .int .u64 0, .int .u8 0, .int .i64 0] 123)) (.cells #[.int .u8 kk, .int .u64 (now : Int), .int .i64 (-1), .int .i64 (-1), .int .u64 0, .int .i64 (-1), .int .u64 0, .int .u8 0, .int .i64 0] 123)) = wa at *
  clear hz0
  go_wp2_with fail
  refine hfl.mono ?_
  rintro x w1 ⟨rfl, E1, M1⟩
  have hs := M1.size
  have hlz := ZR.lt
  have Z1 := ZR.blk (M1.block w.heap.size hlz (by omega))
  have fz2 : ∀ o, w1.frozen? ⟨w.heap.size, o, none⟩ = false := fun o => (World.frozen?_of_block (a := ⟨w.heap.size, o, none⟩) (M1.block w.heap.size hlz (by omega))).trans (fz1 o)
  have bb1 : Below w.heap.size w w1 := ⟨M1.os.trans bb.os, M1.tape.trans bb.tape, M1.output.trans bb.output, Nat.le_trans bb.size M1.size, fun q hq => (M1.block q (by have := bb.size; omega) (by omega)).trans (bb.block q hq)⟩
  have HBB := hideIt bb1
  have n1 : ¬ (w.heap.size = w.heap.size + 1) := by omega
  have n2 : ¬ (w.heap.size + 1 = w.heap.size) := by omega
  clear hfl fz1 ZR M1 bb bb1
  obtain ⟨z0, z1, z2, z3, z4, z5, z6, z7, z8⟩ := Z1
  obtain ⟨e0, e1, e2, e3, e4, e5, e6, e7, e8⟩ := E1
  simp only [Nat.zero_add] at z0 z1 z2 z3 z4 z5 z6 z7 z8 e0 e1 e2 e3 e4 e5 e6 e7 e8
  go_wp2
  refine bodyPost_ret (v := .agg #[.int .u8 kk, .int .u64 (now : Int), .int .i64 (-1), .int .i64 (-1), .int .u64 0, .int .i64 (-1), .int .u64 0, .int .u8 0, .int .i64 c]) (by simp [results, Tryz.results116, go_sem, z0, z1, z2, z3, z4, z5, z6, z7, z8]) rfl ⟨rfl, ?_⟩
  repeat refine below_set ?_ (Nat.le_refl _)
  exact HBB.out
set_option maxRecDepth 20000 in
set_option maxHeartbeats 4000000 in
theorem one_119 {w : World} {pb now : Nat} {kk : Int} {p8 : Nat} {co tm : Int} (HB : Ev9 w pb 0 (bl now 0)) (h1 : w.cell? ⟨p8, 1, none⟩ = some (.int .i64 co)) (h3 : w.cell? ⟨p8, 3, none⟩ = some (.int .u64 tm)) : Calls Tryz.prog 116 #[.int .u8 kk, .func (.func 119) #[] #[.pointer (some ⟨p8, 0, none⟩)], .pointer (some ⟨pb, 0, none⟩)] w fun x w' => x = .returned (evV ⟨kk, (now : Int), co, (-1), tm, (-1), 0, 0, 0⟩) ∧ Below w.heap.size w w' := by
  have hpb := HB.lt
  have bb : Below w.heap.size w (World.alloc (World.alloc w (.cells #[.int .u8 0, .int .u64 0, .int .i64 0, .int .i64 0, .int .u64 0, .int .i64 0, .int .u64 0, .int .u8 0, .int .i64 0] 123)) (.cells #[.int .u8 kk, .int .u64 (now : Int), .int .i64 (-1), .int .i64 (-1), .int .u64 0, .int .i64 (-1), .int .u64 0, .int .u8 0, .int .i64 0] 123)) := (one_alloc w _).trans ((one_alloc _ _).mono (by simp))
  have E0 := Ev9.new (World.alloc w (.cells #[.int .u8 0, .int .u64 0, .int .i64 0, .int .i64 0, .int .u64 0, .int .i64 0, .int .u64 0, .int .u8 0, .int .i64 0] 123)) ⟨kk, (now : Int), (-1), (-1), 0, (-1), 0, 0, 0⟩ 123
  have hz0 : (World.alloc w (.cells #[.int .u8 0, .int .u64 0, .int .i64 0, .int .i64 0, .int .u64 0, .int .i64 0, .int .u64 0, .int .u8 0, .int .i64 0] 123)).heap.size = w.heap.size + 1 := by simp
  rw [hz0] at E0
  have ZR := (Ev9.new w ⟨0, 0, 0, 0, 0, 0, 0, 0, 0⟩ 123).blk ((one_alloc (World.alloc w (.cells #[.int .u8 0, .int .u64 0, .int .i64 0, .int .i64 0, .int .u64 0, .int .i64 0, .int .u64 0, .int .u8 0, .int .i64 0] 123)) (.cells #[.int .u8 kk, .int .u64 (now : Int), .int .i64 (-1), .int .i64 (-1), .int .u64 0, .int .i64 (-1), .int .u64 0, .int .u8 0, .int .i64 0] 123)).block w.heap.size (by simp))
  have fz0 : ∀ o, (World.alloc (World.alloc w (.cells #[.int .u8 0, .int .u64 0, .int .i64 0, .int .i64 0, .int .u64 0, .int .i64 0, .int .u64 0, .int .u8 0, .int .i64 0] 123)) (.cells #[.int .u8 kk, .int .u64 (now : Int), .int .i64 (-1), .int .i64 (-1), .int .u64 0, .int .i64 (-1), .int .u64 0, .int .u8 0, .int .i64 0] 123)).frozen? ⟨w.heap.size + 1, o, none⟩ = false := fun o => by rw [← hz0]; simp
  have fz1 : ∀ o, (World.alloc (World.alloc w (.cells #[.int .u8 0, .int .u64 0, .int .i64 0, .int .i64 0, .int .u64 0, .int .i64 0, .int .u64 0, .int .u8 0, .int .i64 0] 123)) (.cells #[.int .u8 kk, .int .u64 (now : Int), .int .i64 (-1), .int .i64 (-1), .int .u64 0, .int .i64 (-1), .int .u64 0, .int .u8 0, .int .i64 0] 123)).frozen? ⟨w.heap.size, o, none⟩ = false := fun o => (World.frozen?_of_block (a := ⟨w.heap.size, o, none⟩) ((one_alloc (World.alloc w (.cells #[.int .u8 0, .int .u64 0, .int .i64 0, .int .i64 0, .int .u64 0, .int .i64 0, .int .u64 0, .int .u8 0, .int .i64 0] 123)) (.cells #[.int .u8 kk, .int .u64 (now : Int), .int .i64 (-1), .int .i64 (-1), .int .u64 0, .int .i64 (-1), .int .u64 0, .int .u8 0, .int .i64 0] 123)).block w.heap.size (by simp))).trans (by simp)
  have lp8 : p8 < w.heap.size := World.block_lt_of_cell? _ _ h1
  have kh1 := (World.cell?_of_block (a := ⟨p8, 1, none⟩) (bb.block p8 lp8)).trans h1
  have kh3 := (World.cell?_of_block (a := ⟨p8, 3, none⟩) (bb.block p8 lp8)).trans h3
  have hfl := fill_119 E0 fz0 kh1 kh3 (by omega)
  obtain ⟨b0, b1, b2, b3, b4, b5, b6, b7, b8⟩ := HB
  unfold bl at b0 b1 b2 b3 b4 b5 b6 b7 b8
  simp only [Nat.zero_add] at b0 b1 b2 b3 b4 b5 b6 b7 b8
  have c0 : ∀ cs, (w.alloc (.cells cs 123)).cell? ⟨pb, 0, none⟩ = some (.int .u8 0) := fun cs => (World.cell?_of_block (a := ⟨pb, 0, none⟩) ((one_alloc w _).block pb hpb)).trans b0
  have c1 : ∀ cs, (w.alloc (.cells cs 123)).cell? ⟨pb, 1, none⟩ = some (.int .u64 (now : Int)) := fun cs => (World.cell?_of_block (a := ⟨pb, 1, none⟩) ((one_alloc w _).block pb hpb)).trans b1
  have c2 : ∀ cs, (w.alloc (.cells cs 123)).cell? ⟨pb, 2, none⟩ = some (.int .i64 (-1)) := fun cs => (World.cell?_of_block (a := ⟨pb, 2, none⟩) ((one_alloc w _).block pb hpb)).trans b2
  have c3 : ∀ cs, (w.alloc (.cells cs 123)).cell? ⟨pb, 3, none⟩ = some (.int .i64 (-1)) := fun cs => (World.cell?_of_block (a := ⟨pb, 3, none⟩) ((one_alloc w _).block pb hpb)).trans b3
  have c4 : ∀ cs, (w.alloc (.cells cs 123)).cell? ⟨pb, 4, none⟩ = some (.int .u64 0) := fun cs => (World.cell?_of_block (a := ⟨pb, 4, none⟩) ((one_alloc w _).block pb hpb)).trans b4
  have c5 : ∀ cs, (w.alloc (.cells cs 123)).cell? ⟨pb, 5, none⟩ = some (.int .i64 (-1)) := fun cs => (World.cell?_of_block (a := ⟨pb, 5, none⟩) ((one_alloc w _).block pb hpb)).trans b5
  have c6 : ∀ cs, (w.alloc (.cells cs 123)).cell? ⟨pb, 6, none⟩ = some (.int .u64 0) := fun cs => (World.cell?_of_block (a := ⟨pb, 6, none⟩) ((one_alloc w _).block pb hpb)).trans b6
  have c7 : ∀ cs, (w.alloc (.cells cs 123)).cell? ⟨pb, 7, none⟩ = some (.int .u8 0) := fun cs => (World.cell?_of_block (a := ⟨pb, 7, none⟩) ((one_alloc w _).block pb hpb)).trans b7
  have c8 : ∀ cs, (w.alloc (.cells cs 123)).cell? ⟨pb, 8, none⟩ = some (.int .i64 0) := fun cs => (World.cell?_of_block (a := ⟨pb, 8, none⟩) ((one_alloc w _).block pb hpb)).trans b8
  have HX := hideIt (And.intro bb (And.intro ZR fz1))
  have HFL := hideIt hfl
  clear hfl E0 fz0 bb ZR fz1 kh1 kh3
  unfold evV
  go_enter Tryz.func116, Tryz.ntmps116
  go_upto_region 3 with fail
  have hfl := HFL.out
  obtain ⟨bb, ZR, fz1⟩ := HX.out
  clear HX HFL c0 c1 c2 c3 c4 c5 c6 c7 c8 b0 b1 b2 b3 b4 b5 b6 b7 b8
  generalize (World.alloc (World.alloc w (.cells #[.int .u8 0, .int .u64 0, .int .i64 0, .int .i64 0, .int .u64 0, .int .i64 0, .int .u64 0, .int .u8 0, .int .i64 0] 123)) (.cells #[.int .u8 kk, .int .u64 (now : Int), .int .i64 (-1), .int .i64 (-1), .int .u64 0, .int .i64 (-1), .int .u64 0, .int .u8 0, .int .i64 0] 123)) = wa at *
  clear hz0
  go_wp2_with fail
  refine hfl.mono ?_
  rintro x w1 ⟨rfl, E1, M1⟩
  have hs := M1.size
  have hlz := ZR.lt
  have Z1 := ZR.blk (M1.block w.heap.size hlz (by omega))
  have fz2 : ∀ o, w1.frozen? ⟨w.heap.size, o, none⟩ = false := fun o => (World.frozen?_of_block (a := ⟨w.heap.size, o, none⟩) (M1.block w.heap.size hlz (by omega))).trans (fz1 o)
  have bb1 : Below w.heap.size w w1 := ⟨M1.os.trans bb.os, M1.tape.trans bb.tape, M1.output.trans bb.output, Nat.le_trans bb.size M1.size, fun q hq => (M1.block q (by have := bb.size; omega) (by omega)).trans (bb.block q hq)⟩
  have HBB := hideIt bb1
  have n1 : ¬ (w.heap.size = w.heap.size + 1) := by omega
  have n2 : ¬ (w.heap.size + 1 = w.heap.size) := by omega
  clear hfl fz1 ZR M1 bb bb1
  obtain ⟨z0, z1, z2, z3, z4, z5, z6, z7, z8⟩ := Z1
  obtain ⟨e0, e1, e2, e3, e4, e5, e6, e7, e8⟩ := E1
  simp only [Nat.zero_add] at z0 z1 z2 z3 z4 z5 z6 z7 z8 e0 e1 e2 e3 e4 e5 e6 e7 e8
  go_wp2
  refine bodyPost_ret (v := .agg #[.int .u8 kk, .int .u64 (now : Int), .int .i64 co, .int .i64 (-1), .int .u64 tm, .int .i64 (-1), .int .u64 0, .int .u8 0, .int .i64 0]) (by simp [results, Tryz.results116, go_sem, z0, z1, z2, z3, z4, z5, z6, z7, z8]) rfl ⟨rfl, ?_⟩
  repeat refine below_set ?_ (Nat.le_refl _)
  exact HBB.out
set_option maxRecDepth 20000 in
set_option maxHeartbeats 4000000 in
theorem one_120 {w : World} {pb now : Nat} {kk : Int} {p8 p10 : Nat} {co wa_ : Int} (HB : Ev9 w pb 0 (bl now 0)) (h1 : w.cell? ⟨p8, 1, none⟩ = some (.int .i64 co)) (h2 : w.cell? ⟨p10, 0, none⟩ = some (.int .i64 wa_)) : Calls Tryz.prog 116 #[.int .u8 kk, .func (.func 120) #[] #[.pointer (some ⟨p8, 0, none⟩), .pointer (some ⟨p10, 0, none⟩)], .pointer (some ⟨pb, 0, none⟩)] w fun x w' => x = .returned (evV ⟨kk, (now : Int), co, wa_, 0, (-1), 0, 0, 0⟩) ∧ Below w.heap.size w w' := by
  have hpb := HB.lt
  have bb : Below w.heap.size w (World.alloc (World.alloc w (.cells #[.int .u8 0, .int .u64 0, .int .i64 0, .int .i64 0, .int .u64 0, .int .i64 0, .int .u64 0, .int .u8 0, .int .i64 0] 123)) (.cells #[.int .u8 kk, .int .u64 (now : Int), .int .i64 (-1), .int .i64 (-1), .int .u64 0, .int .i64 (-1), .int .u64 0, .int .u8 0, .int .i64 0] 123)) := (one_alloc w _).trans ((one_alloc _ _).mono (by simp))
  have E0 := Ev9.new (World.alloc w (.cells #[.int .u8 0, .int .u64 0, .int .i64 0, .int .i64 0, .int .u64 0, .int .i64 0, .int .u64 0, .int .u8 0, .int .i64 0] 123)) ⟨kk, (now : Int), (-1), (-1), 0, (-1), 0, 0, 0⟩ 123
  have hz0 : (World.alloc w (.cells #[.int .u8 0, .int .u64 0, .int .i64 0, .int .i64 0, .int .u64 0, .int .i64 0, .int .u64 0, .int .u8 0, .int .i64 0] 123)).heap.size = w.heap.size + 1 := by simp
  rw [hz0] at E0
  have ZR := (Ev9.new w ⟨0, 0, 0, 0, 0, 0, 0, 0, 0⟩ 123).blk ((one_alloc (World.alloc w (.cells #[.int .u8 0, .int .u64 0, .int .i64 0, .int .i64 0, .int .u64 0, .int .i64 0, .int .u64 0, .int .u8 0, .int .i64 0] 123)) (.cells #[.int .u8 kk, .int .u64 (now : Int), .int .i64 (-1), .int .i64 (-1), .int .u64 0, .int .i64 (-1), .int .u64 0, .int .u8 0, .int .i64 0] 123)).block w.heap.size (by simp))
  have fz0 : ∀ o, (World.alloc (World.alloc w (.cells #[.int .u8 0, .int .u64 0, .int .i64 0, .int .i64 0, .int .u64 0, .int .i64 0, .int .u64 0, .int .u8 0, .int .i64 0] 123)) (.cells #[.int .u8 kk, .int .u64 (now : Int), .int .i64 (-1), .int .i64 (-1), .int .u64 0, .int .i64 (-1), .int .u64 0, .int .u8 0, .int .i64 0] 123)).frozen? ⟨w.heap.size + 1, o, none⟩ = false := fun o => by rw [← hz0]; simp
  have fz1 : ∀ o, (World.alloc (World.alloc w (.cells #[.int .u8 0, .int .u64 0, .int .i64 0, .int .i64 0, .int .u64 0, .int .i64 0, .int .u64 0, .int .u8 0, .int .i64 0] 123)) (.cells #[.int .u8 kk, .int .u64 (now : Int), .int .i64 (-1), .int .i64 (-1), .int .u64 0, .int .i64 (-1), .int .u64 0, .int .u8 0, .int .i64 0] 123)).frozen? ⟨w.heap.size, o, none⟩ = false := fun o => (World.frozen?_of_block (a := ⟨w.heap.size, o, none⟩) ((one_alloc (World.alloc w (.cells #[.int .u8 0, .int .u64 0, .int .i64 0, .int .i64 0, .int .u64 0, .int .i64 0, .int .u64 0, .int .u8 0, .int .i64 0] 123)) (.cells #[.int .u8 kk, .int .u64 (now : Int), .int .i64 (-1), .int .i64 (-1), .int .u64 0, .int .i64 (-1), .int .u64 0, .int .u8 0, .int .i64 0] 123)).block w.heap.size (by simp))).trans (by simp)
  have lp8 : p8 < w.heap.size := World.block_lt_of_cell? _ _ h1
  have lp10 : p10 < w.heap.size := World.block_lt_of_cell? _ _ h2
  have kh1 := (World.cell?_of_block (a := ⟨p8, 1, none⟩) (bb.block p8 lp8)).trans h1
  have kh2 := (World.cell?_of_block (a := ⟨p10, 0, none⟩) (bb.block p10 lp10)).trans h2
  have hfl := fill_120 E0 fz0 kh1 kh2 (by omega) (by omega)
  obtain ⟨b0, b1, b2, b3, b4, b5, b6, b7, b8⟩ := HB
  unfold bl at b0 b1 b2 b3 b4 b5 b6 b7 b8
  simp only [Nat.zero_add] at b0 b1 b2 b3 b4 b5 b6 b7 b8
  have c0 : ∀ cs, (w.alloc (.cells cs 123)).cell? ⟨pb, 0, none⟩ = some (.int .u8 0) := fun cs => (World.cell?_of_block (a := ⟨pb, 0, none⟩) ((one_alloc w _).block pb hpb)).trans b0
  have c1 : ∀ cs, (w.alloc (.cells cs 123)).cell? ⟨pb, 1, none⟩ = some (.int .u64 (now : Int)) := fun cs => (World.cell?_of_block (a := ⟨pb, 1, none⟩) ((one_alloc w _).block pb hpb)).trans b1
  have c2 : ∀ cs, (w.alloc (.cells cs 123)).cell? ⟨pb, 2, none⟩ = some (.int .i64 (-1)) := fun cs => (World.cell?_of_block (a := ⟨pb, 2, none⟩) ((one_alloc w _).block pb hpb)).trans b2
  have c3 : ∀ cs, (w.alloc (.cells cs 123)).cell? ⟨pb, 3, none⟩ = some (.int .i64 (-1)) := fun cs => (World.cell?_of_block (a := ⟨pb, 3, none⟩) ((one_alloc w _).block pb hpb)).trans b3
  have c4 : ∀ cs, (w.alloc (.cells cs 123)).cell? ⟨pb, 4, none⟩ = some (.int .u64 0) := fun cs => (World.cell?_of_block (a := ⟨pb, 4, none⟩) ((one_alloc w _).block pb hpb)).trans b4
  have c5 : ∀ cs, (w.alloc (.cells cs 123)).cell? ⟨pb, 5, none⟩ = some (.int .i64 (-1)) := fun cs => (World.cell?_of_block (a := ⟨pb, 5, none⟩) ((one_alloc w _).block pb hpb)).trans b5
  have c6 : ∀ cs, (w.alloc (.cells cs 123)).cell? ⟨pb, 6, none⟩ = some (.int .u64 0) := fun cs => (World.cell?_of_block (a := ⟨pb, 6, none⟩) ((one_alloc w _).block pb hpb)).trans b6
  have c7 : ∀ cs, (w.alloc (.cells cs 123)).cell? ⟨pb, 7, none⟩ = some (.int .u8 0) := fun cs => (World.cell?_of_block (a := ⟨pb, 7, none⟩) ((one_alloc w _).block pb hpb)).trans b7
  have c8 : ∀ cs, (w.alloc (.cells cs 123)).cell? ⟨pb, 8, none⟩ = some (.int .i64 0) := fun cs => (World.cell?_of_block (a := ⟨pb, 8, none⟩) ((one_alloc w _).block pb hpb)).trans b8
  have HX := hideIt (And.intro bb (And.intro ZR fz1))
  have HFL := hideIt hfl
  clear hfl E0 fz0 bb ZR fz1 kh1 kh2
  unfold evV
  go_enter Tryz.func116, Tryz.ntmps116
  go_upto_region 3 with fail
  have hfl := HFL.out
  obtain ⟨bb, ZR, fz1⟩ := HX.out
  clear HX HFL c0 c1 c2 c3 c4 c5 c6 c7 c8 b0 b1 b2 b3 b4 b5 b6 b7 b8
  generalize (World.alloc (World.alloc w (.cells #[.int .u8 0, .int .u64 0, .int .i64 0, .int .i64 0, .int .u64 0, .int .i64 0, .int .u64 0, .int .u8 0, .int .i64 0] 123)) (.cells #[.int .u8 kk, .int .u64 (now : Int), .int .i64 (-1), .int .i64 (-1), .int .u64 0, .int .i64 (-1), .int .u64 0, .int .u8 0, .int .i64 0] 123)) = wa at *
  clear hz0
  go_wp2_with fail
  refine hfl.mono ?_
  rintro x w1 ⟨rfl, E1, M1⟩
  have hs := M1.size
  have hlz := ZR.lt
  have Z1 := ZR.blk (M1.block w.heap.size hlz (by omega))
  have fz2 : ∀ o, w1.frozen? ⟨w.heap.size, o, none⟩ = false := fun o => (World.frozen?_of_block (a := ⟨w.heap.size, o, none⟩) (M1.block w.heap.size hlz (by omega))).trans (fz1 o)
  have bb1 : Below w.heap.size w w1 := ⟨M1.os.trans bb.os, M1.tape.trans bb.tape, M1.output.trans bb.output, Nat.le_trans bb.size M1.size, fun q hq => (M1.block q (by have := bb.size; omega) (by omega)).trans (bb.block q hq)⟩
  have HBB := hideIt bb1
  have n1 : ¬ (w.heap.size = w.heap.size + 1) := by omega
  have n2 : ¬ (w.heap.size + 1 = w.heap.size) := by omega
  clear hfl fz1 ZR M1 bb bb1
  obtain ⟨z0, z1, z2, z3, z4, z5, z6, z7, z8⟩ := Z1
  obtain ⟨e0, e1, e2, e3, e4, e5, e6, e7, e8⟩ := E1
  simp only [Nat.zero_add] at z0 z1 z2 z3 z4 z5 z6 z7 z8 e0 e1 e2 e3 e4 e5 e6 e7 e8
  go_wp2
  refine bodyPost_ret (v := .agg #[.int .u8 kk, .int .u64 (now : Int), .int .i64 co, .int .i64 wa_, .int .u64 0, .int .i64 (-1), .int .u64 0, .int .u8 0, .int .i64 0]) (by simp [results, Tryz.results116, go_sem, z0, z1, z2, z3, z4, z5, z6, z7, z8]) rfl ⟨rfl, ?_⟩
  repeat refine below_set ?_ (Nat.le_refl _)
  exact HBB.out
set_option maxRecDepth 20000 in
set_option maxHeartbeats 4000000 in
theorem one_121 {w : World} {pb now : Nat} {kk : Int} {p8 : Nat} {co tk : Int} (HB : Ev9 w pb 0 (bl now 0)) (h1 : w.cell? ⟨p8, 1, none⟩ = some (.int .i64 co)) (h2 : w.cell? ⟨p8, 2, none⟩ = some (.int .i64 tk)) : Calls Tryz.prog 116 #[.int .u8 kk, .func (.func 121) #[] #[.pointer (some ⟨p8, 0, none⟩)], .pointer (some ⟨pb, 0, none⟩)] w fun x w' => x = .returned (evV ⟨kk, (now : Int), co, tk, 0, (-1), 0, 0, 0⟩) ∧ Below w.heap.size w w' := by
  have hpb := HB.lt
  have bb : Below w.heap.size w (World.alloc (World.alloc w (.cells #[.int .u8 0, .int .u64 0, .int .i64 0, .int .i64 0, .int .u64 0, .int .i64 0, .int .u64 0, .int .u8 0, .int .i64 0] 123)) (.cells #[.int .u8 kk, .int .u64 (now : Int), .int .i64 (-1), .int .i64 (-1), .int .u64 0, .int .i64 (-1), .int .u64 0, .int .u8 0, .int .i64 0] 123)) := (one_alloc w _).trans ((one_alloc _ _).mono (by simp))
  have E0 := Ev9.new (World.alloc w (.cells #[.int .u8 0, .int .u64 0, .int .i64 0, .int .i64 0, .int .u64 0, .int .i64 0, .int .u64 0, .int .u8 0, .int .i64 0] 123)) ⟨kk, (now : Int), (-1), (-1), 0, (-1), 0, 0, 0⟩ 123
  have hz0 : (World.alloc w (.cells #[.int .u8 0, .int .u64 0, .int .i64 0, .int .i64 0, .int .u64 0, .int .i64 0, .int .u64 0, .int .u8 0, .int .i64 0] 123)).heap.size = w.heap.size + 1 := by simp
  rw [hz0] at E0
  have ZR := (Ev9.new w ⟨0, 0, 0, 0, 0, 0, 0, 0, 0⟩ 123).blk ((one_alloc (World.alloc w (.cells #[.int .u8 0, .int .u64 0, .int .i64 0, .int .i64 0, .int .u64 0, .int .i64 0, .int .u64 0, .int .u8 0, .int .i64 0] 123)) (.cells #[.int .u8 kk, .int .u64 (now : Int), .int .i64 (-1), .int .i64 (-1), .int .u64 0, .int .i64 (-1), .int .u64 0, .int .u8 0, .int .i64 0] 123)).block w.heap.size (by simp))
  have fz0 : ∀ o, (World.alloc (World.alloc w (.cells #[.int .u8 0, .int .u64 0, .int .i64 0, .int .i64 0, .int .u64 0, .int .i64 0, .int .u64 0, .int .u8 0, .int .i64 0] 123)) (.cells #[.int .u8 kk, .int .u64 (now : Int), .int .i64 (-1), .int .i64 (-1), .int .u64 0, .int .i64 (-1), .int .u64 0, .int .u8 0, .int .i64 0] 123)).frozen? ⟨w.heap.size + 1, o, none⟩ = false := fun o => by rw [← hz0]; simp
  have fz1 : ∀ o, (World.alloc (World.alloc w (.cells #[.int .u8 0, .int .u64 0, .int .i64 0, .int .i64 0, .int .u64 0, .int .i64 0, .int .u64 0, .int .u8 0, .int .i64 0] 123)) (.cells #[.int .u8 kk, .int .u64 (now : Int), .int .i64 (-1), .int .i64 (-1), .int .u64 0, .int .i64 (-1), .int .u64 0, .int .u8 0, .int .i64 0] 123)).frozen? ⟨w.heap.size, o, none⟩ = false := fun o => (World.frozen?_of_block (a := ⟨w.heap.size, o, none⟩) ((one_alloc (World.alloc w (.cells #[.int .u8 0, .int .u64 0, .int .i64 0, .int .i64 0, .int .u64 0, .int .i64 0, .int .u64 0, .int .u8 0, .int .i64 0] 123)) (.cells #[.int .u8 kk, .int .u64 (now : Int), .int .i64 (-1), .int .i64 (-1), .int .u64 0, .int .i64 (-1), .int .u64 0, .int .u8 0, .int .i64 0] 123)).block w.heap.size (by simp))).trans (by simp)
  have lp8 : p8 < w.heap.size := World.block_lt_of_cell? _ _ h1
  have kh1 := (World.cell?_of_block (a := ⟨p8, 1, none⟩) (bb.block p8 lp8)).trans h1
  have kh2 := (World.cell?_of_block (a := ⟨p8, 2, none⟩) (bb.block p8 lp8)).trans h2
  have hfl := fill_121 E0 fz0 kh1 kh2 (by omega)
  obtain ⟨b0, b1, b2, b3, b4, b5, b6, b7, b8⟩ := HB
  unfold bl at b0 b1 b2 b3 b4 b5 b6 b7 b8
  simp only [Nat.zero_add] at b0 b1 b2 b3 b4 b5 b6 b7 b8
  have c0 : ∀ cs, (w.alloc (.cells cs 123)).cell? ⟨pb, 0, none⟩ = some (.int .u8 0) := fun cs => (World.cell?_of_block (a := ⟨pb, 0, none⟩) ((one_alloc w _).block pb hpb)).trans b0
  have c1 : ∀ cs, (w.alloc (.cells cs 123)).cell? ⟨pb, 1, none⟩ = some (.int .u64 (now : Int)) := fun cs => (World.cell?_of_block (a := ⟨pb, 1, none⟩) ((one_alloc w _).block pb hpb)).trans b1
  have c2 : ∀ cs, (w.alloc (.cells cs 123)).cell? ⟨pb, 2, none⟩ = some (.int .i64 (-1)) := fun cs => (World.cell?_of_block (a := ⟨pb, 2, none⟩) ((one_alloc w _).block pb hpb)).trans b2
  have c3 : ∀ cs, (w.alloc (.cells cs 123)).cell? ⟨pb, 3, none⟩ = some (.int .i64 (-1)) := fun cs => (World.cell?_of_block (a := ⟨pb, 3, none⟩) ((one_alloc w _).block pb hpb)).trans b3
  have c4 : ∀ cs, (w.alloc (.cells cs 123)).cell? ⟨pb, 4, none⟩ = some (.int .u64 0) := fun cs => (World.cell?_of_block (a := ⟨pb, 4, none⟩) ((one_alloc w _).block pb hpb)).trans b4
  have c5 : ∀ cs, (w.alloc (.cells cs 123)).cell? ⟨pb, 5, none⟩ = some (.int .i64 (-1)) := fun cs => (World.cell?_of_block (a := ⟨pb, 5, none⟩) ((one_alloc w _).block pb hpb)).trans b5
  have c6 : ∀ cs, (w.alloc (.cells cs 123)).cell? ⟨pb, 6, none⟩ = some (.int .u64 0) := fun cs => (World.cell?_of_block (a := ⟨pb, 6, none⟩) ((one_alloc w _).block pb hpb)).trans b6
  have c7 : ∀ cs, (w.alloc (.cells cs 123)).cell? ⟨pb, 7, none⟩ = some (.int .u8 0) := fun cs => (World.cell?_of_block (a := ⟨pb, 7, none⟩) ((one_alloc w _).block pb hpb)).trans b7
  have c8 : ∀ cs, (w.alloc (.cells cs 123)).cell? ⟨pb, 8, none⟩ = some (.int .i64 0) := fun cs => (World.cell?_of_block (a := ⟨pb, 8, none⟩) ((one_alloc w _).block pb hpb)).trans b8
  have HX := hideIt (And.intro bb (And.intro ZR fz1))
  have HFL := hideIt hfl
  clear hfl E0 fz0 bb ZR fz1 kh1 kh2
  unfold evV
  go_enter Tryz.func116, Tryz.ntmps116
  go_upto_region 3 with fail
  have hfl := HFL.out
  obtain ⟨bb, ZR, fz1⟩ := HX.out
  clear HX HFL c0 c1 c2 c3 c4 c5 c6 c7 c8 b0 b1 b2 b3 b4 b5 b6 b7 b8
  generalize (World.alloc (World.alloc w (.cells #[.int .u8 0, .int .u64 0, .int .i64 0, .int .i64 0, .int .u64 0, .int .i64 0, .int .u64 0, .int .u8 0, .int .i64 0] 123)) (.cells #[.int .u8 kk, .int .u64 (now : Int), .int .i64 (-1), .int .i64 (-1), .int .u64 0, .int .i64 (-1), .int .u64 0, .int .u8 0, .int .i64 0] 123)) = wa at *
  clear hz0
  go_wp2_with fail
  refine hfl.mono ?_
  rintro x w1 ⟨rfl, E1, M1⟩
  have hs := M1.size
  have hlz := ZR.lt
  have Z1 := ZR.blk (M1.block w.heap.size hlz (by omega))
  have fz2 : ∀ o, w1.frozen? ⟨w.heap.size, o, none⟩ = false := fun o => (World.frozen?_of_block (a := ⟨w.heap.size, o, none⟩) (M1.block w.heap.size hlz (by omega))).trans (fz1 o)
  have bb1 : Below w.heap.size w w1 := ⟨M1.os.trans bb.os, M1.tape.trans bb.tape, M1.output.trans bb.output, Nat.le_trans bb.size M1.size, fun q hq => (M1.block q (by have := bb.size; omega) (by omega)).trans (bb.block q hq)⟩
  have HBB := hideIt bb1
  have n1 : ¬ (w.heap.size = w.heap.size + 1) := by omega
  have n2 : ¬ (w.heap.size + 1 = w.heap.size) := by omega
  clear hfl fz1 ZR M1 bb bb1
  obtain ⟨z0, z1, z2, z3, z4, z5, z6, z7, z8⟩ := Z1
  obtain ⟨e0, e1, e2, e3, e4, e5, e6, e7, e8⟩ := E1
  simp only [Nat.zero_add] at z0 z1 z2 z3 z4 z5 z6 z7 z8 e0 e1 e2 e3 e4 e5 e6 e7 e8
  go_wp2
  refine bodyPost_ret (v := .agg #[.int .u8 kk, .int .u64 (now : Int), .int .i64 co, .int .i64 tk, .int .u64 0, .int .i64 (-1), .int .u64 0, .int .u8 0, .int .i64 0]) (by simp [results, Tryz.results116, go_sem, z0, z1, z2, z3, z4, z5, z6, z7, z8]) rfl ⟨rfl, ?_⟩
  repeat refine below_set ?_ (Nat.le_refl _)
  exact HBB.out
set_option maxRecDepth 20000 in
set_option maxHeartbeats 4000000 in
theorem one_122 {w : World} {pb now : Nat} {kk : Int} {p8 : Nat} {mf mt mq : Int} (HB : Ev9 w pb 0 (bl now 0)) (h1 : w.cell? ⟨p8, 5, none⟩ = some (.int .i64 mf)) (h2 : w.cell? ⟨p8, 6, none⟩ = some (.int .i64 mt)) (h3 : w.cell? ⟨p8, 8, none⟩ = some (.int .u64 mq)) : Calls Tryz.prog 116 #[.int .u8 kk, .func (.func 122) #[] #[.pointer (some ⟨p8, 0, none⟩)], .pointer (some ⟨pb, 0, none⟩)] w fun x w' => x = .returned (evV ⟨kk, (now : Int), mt, (-1), 0, (boxF mf mt), mq, 0, 0⟩) ∧ Below w.heap.size w w' := by
  have hpb := HB.lt
  have bb : Below w.heap.size w (World.alloc (World.alloc w (.cells #[.int .u8 0, .int .u64 0, .int .i64 0, .int .i64 0, .int .u64 0, .int .i64 0, .int .u64 0, .int .u8 0, .int .i64 0] 123)) (.cells #[.int .u8 kk, .int .u64 (now : Int), .int .i64 (-1), .int .i64 (-1), .int .u64 0, .int .i64 (-1), .int .u64 0, .int .u8 0, .int .i64 0] 123)) := (one_alloc w _).trans ((one_alloc _ _).mono (by simp))
  have E0 := Ev9.new (World.alloc w (.cells #[.int .u8 0, .int .u64 0, .int .i64 0, .int .i64 0, .int .u64 0, .int .i64 0, .int .u64 0, .int .u8 0, .int .i64 0] 123)) ⟨kk, (now : Int), (-1), (-1), 0, (-1), 0, 0, 0⟩ 123
  have hz0 : (World.alloc w (.cells #[.int .u8 0, .int .u64 0, .int .i64 0, .int .i64 0, .int .u64 0, .int .i64 0, .int .u64 0, .int .u8 0, .int .i64 0] 123)).heap.size = w.heap.size + 1 := by simp
  rw [hz0] at E0
  have ZR := (Ev9.new w ⟨0, 0, 0, 0, 0, 0, 0, 0, 0⟩ 123).blk ((one_alloc (World.alloc w (.cells #[.int .u8 0, .int .u64 0, .int .i64 0, .int .i64 0, .int .u64 0, .int .i64 0, .int .u64 0, .int .u8 0, .int .i64 0] 123)) (.cells #[.int .u8 kk, .int .u64 (now : Int), .int .i64 (-1), .int .i64 (-1), .int .u64 0, .int .i64 (-1), .int .u64 0, .int .u8 0, .int .i64 0] 123)).block w.heap.size (by simp))
  have fz0 : ∀ o, (World.alloc (World.alloc w (.cells #[.int .u8 0, .int .u64 0, .int .i64 0, .int .i64 0, .int .u64 0, .int .i64 0, .int .u64 0, .int .u8 0, .int .i64 0] 123)) (.cells #[.int .u8 kk, .int .u64 (now : Int), .int .i64 (-1), .int .i64 (-1), .int .u64 0, .int .i64 (-1), .int .u64 0, .int .u8 0, .int .i64 0] 123)).frozen? ⟨w.heap.size + 1, o, none⟩ = false := fun o => by rw [← hz0]; simp
  have fz1 : ∀ o, (World.alloc (World.alloc w (.cells #[.int .u8 0, .int .u64 0, .int .i64 0, .int .i64 0, .int .u64 0, .int .i64 0, .int .u64 0, .int .u8 0, .int .i64 0] 123)) (.cells #[.int .u8 kk, .int .u64 (now : Int), .int .i64 (-1), .int .i64 (-1), .int .u64 0, .int .i64 (-1), .int .u64 0, .int .u8 0, .int .i64 0] 123)).frozen? ⟨w.heap.size, o, none⟩ = false := fun o => (World.frozen?_of_block (a := ⟨w.heap.size, o, none⟩) ((one_alloc (World.alloc w (.cells #[.int .u8 0, .int .u64 0, .int .i64 0, .int .i64 0, .int .u64 0, .int .i64 0, .int .u64 0, .int .u8 0, .int .i64 0] 123)) (.cells #[.int .u8 kk, .int .u64 (now : Int), .int .i64 (-1), .int .i64 (-1), .int .u64 0, .int .i64 (-1), .int .u64 0, .int .u8 0, .int .i64 0] 123)).block w.heap.size (by simp))).trans (by simp)
  have lp8 : p8 < w.heap.size := World.block_lt_of_cell? _ _ h1
  have kh1 := (World.cell?_of_block (a := ⟨p8, 5, none⟩) (bb.block p8 lp8)).trans h1
  have kh2 := (World.cell?_of_block (a := ⟨p8, 6, none⟩) (bb.block p8 lp8)).trans h2
  have kh3 := (World.cell?_of_block (a := ⟨p8, 8, none⟩) (bb.block p8 lp8)).trans h3
  have hfl := fill_122 E0 fz0 kh1 kh2 kh3 (by omega)
  obtain ⟨b0, b1, b2, b3, b4, b5, b6, b7, b8⟩ := HB
  unfold bl at b0 b1 b2 b3 b4 b5 b6 b7 b8
  simp only [Nat.zero_add] at b0 b1 b2 b3 b4 b5 b6 b7 b8
  have c0 : ∀ cs, (w.alloc (.cells cs 123)).cell? ⟨pb, 0, none⟩ = some (.int .u8 0) := fun cs => (World.cell?_of_block (a := ⟨pb, 0, none⟩) ((one_alloc w _).block pb hpb)).trans b0
  have c1 : ∀ cs, (w.alloc (.cells cs 123)).cell? ⟨pb, 1, none⟩ = some (.int .u64 (now : Int)) := fun cs => (World.cell?_of_block (a := ⟨pb, 1, none⟩) ((one_alloc w _).block pb hpb)).trans b1
  have c2 : ∀ cs, (w.alloc (.cells cs 123)).cell? ⟨pb, 2, none⟩ = some (.int .i64 (-1)) := fun cs => (World.cell?_of_block (a := ⟨pb, 2, none⟩) ((one_alloc w _).block pb hpb)).trans b2
  have c3 : ∀ cs, (w.alloc (.cells cs 123)).cell? ⟨pb, 3, none⟩ = some (.int .i64 (-1)) := fun cs => (World.cell?_of_block (a := ⟨pb, 3, none⟩) ((one_alloc w _).block pb hpb)).trans b3
  have c4 : ∀ cs, (w.alloc (.cells cs 123)).cell? ⟨pb, 4, none⟩ = some (.int .u64 0) := fun cs => (World.cell?_of_block (a := ⟨pb, 4, none⟩) ((one_alloc w _).block pb hpb)).trans b4
  have c5 : ∀ cs, (w.alloc (.cells cs 123)).cell? ⟨pb, 5, none⟩ = some (.int .i64 (-1)) := fun cs => (World.cell?_of_block (a := ⟨pb, 5, none⟩) ((one_alloc w _).block pb hpb)).trans b5
  have c6 : ∀ cs, (w.alloc (.cells cs 123)).cell? ⟨pb, 6, none⟩ = some (.int .u64 0) := fun cs => (World.cell?_of_block (a := ⟨pb, 6, none⟩) ((one_alloc w _).block pb hpb)).trans b6
  have c7 : ∀ cs, (w.alloc (.cells cs 123)).cell? ⟨pb, 7, none⟩ = some (.int .u8 0) := fun cs => (World.cell?_of_block (a := ⟨pb, 7, none⟩) ((one_alloc w _).block pb hpb)).trans b7
  have c8 : ∀ cs, (w.alloc (.cells cs 123)).cell? ⟨pb, 8, none⟩ = some (.int .i64 0) := fun cs => (World.cell?_of_block (a := ⟨pb, 8, none⟩) ((one_alloc w _).block pb hpb)).trans b8
  have HX := hideIt (And.intro bb (And.intro ZR fz1))
  have HFL := hideIt hfl
  clear hfl E0 fz0 bb ZR fz1 kh1 kh2 kh3
  unfold evV
  go_enter Tryz.func116, Tryz.ntmps116
  go_upto_region 3 with fail
  have hfl := HFL.out
  obtain ⟨bb, ZR, fz1⟩ := HX.out
  clear HX HFL c0 c1 c2 c3 c4 c5 c6 c7 c8 b0 b1 b2 b3 b4 b5 b6 b7 b8
  generalize (World.alloc (World.alloc w (.cells #[.int .u8 0, .int .u64 0, .int .i64 0, .int .i64 0, .int .u64 0, .int .i64 0, .int .u64 0, .int .u8 0, .int .i64 0] 123)) (.cells #[.int .u8 kk, .int .u64 (now : Int), .int .i64 (-1), .int .i64 (-1), .int .u64 0, .int .i64 (-1), .int .u64 0, .int .u8 0, .int .i64 0] 123)) = wa at *
  clear hz0
  go_wp2_with fail
  refine hfl.mono ?_
  rintro x w1 ⟨rfl, E1, M1⟩
  have hs := M1.size
  have hlz := ZR.lt
  have Z1 := ZR.blk (M1.block w.heap.size hlz (by omega))
  have fz2 : ∀ o, w1.frozen? ⟨w.heap.size, o, none⟩ = false := fun o => (World.frozen?_of_block (a := ⟨w.heap.size, o, none⟩) (M1.block w.heap.size hlz (by omega))).trans (fz1 o)
  have bb1 : Below w.heap.size w w1 := ⟨M1.os.trans bb.os, M1.tape.trans bb.tape, M1.output.trans bb.output, Nat.le_trans bb.size M1.size, fun q hq => (M1.block q (by have := bb.size; omega) (by omega)).trans (bb.block q hq)⟩
  have HBB := hideIt bb1
  have n1 : ¬ (w.heap.size = w.heap.size + 1) := by omega
  have n2 : ¬ (w.heap.size + 1 = w.heap.size) := by omega
  clear hfl fz1 ZR M1 bb bb1
  obtain ⟨z0, z1, z2, z3, z4, z5, z6, z7, z8⟩ := Z1
  obtain ⟨e0, e1, e2, e3, e4, e5, e6, e7, e8⟩ := E1
  simp only [Nat.zero_add] at z0 z1 z2 z3 z4 z5 z6 z7 z8 e0 e1 e2 e3 e4 e5 e6 e7 e8
  go_wp2
  refine bodyPost_ret (v := .agg #[.int .u8 kk, .int .u64 (now : Int), .int .i64 mt, .int .i64 (-1), .int .u64 0, .int .i64 (boxF mf mt), .int .u64 mq, .int .u8 0, .int .i64 0]) (by simp [results, Tryz.results116, go_sem, z0, z1, z2, z3, z4, z5, z6, z7, z8]) rfl ⟨rfl, ?_⟩
  repeat refine below_set ?_ (Nat.le_refl _)
  exact HBB.out
set_option maxRecDepth 20000 in
set_option maxHeartbeats 4000000 in
theorem one_123 {w : World} {pb now : Nat} {kk : Int}  (HB : Ev9 w pb 0 (bl now 0)) : Calls Tryz.prog 116 #[.int .u8 kk, .func (.func 123) #[] #[], .pointer (some ⟨pb, 0, none⟩)] w fun x w' => x = .returned (evV ⟨kk, (now : Int), (-1), (-1), 0, (-1), 0, 0, 0⟩) ∧ Below w.heap.size w w' := by
  have hpb := HB.lt
  have bb : Below w.heap.size w (World.alloc (World.alloc w (.cells #[.int .u8 0, .int .u64 0, .int .i64 0, .int .i64 0, .int .u64 0, .int .i64 0, .int .u64 0, .int .u8 0, .int .i64 0] 123)) (.cells #[.int .u8 kk, .int .u64 (now : Int), .int .i64 (-1), .int .i64 (-1), .int .u64 0, .int .i64 (-1), .int .u64 0, .int .u8 0, .int .i64 0] 123)) := (one_alloc w _).trans ((one_alloc _ _).mono (by simp))
  have E0 := Ev9.new (World.alloc w (.cells #[.int .u8 0, .int .u64 0, .int .i64 0, .int .i64 0, .int .u64 0, .int .i64 0, .int .u64 0, .int .u8 0, .int .i64 0] 123)) ⟨kk, (now : Int), (-1), (-1), 0, (-1), 0, 0, 0⟩ 123
  have hz0 : (World.alloc w (.cells #[.int .u8 0, .int .u64 0, .int .i64 0, .int .i64 0, .int .u64 0, .int .i64 0, .int .u64 0, .int .u8 0, .int .i64 0] 123)).heap.size = w.heap.size + 1 := by simp
  rw [hz0] at E0
  have ZR := (Ev9.new w ⟨0, 0, 0, 0, 0, 0, 0, 0, 0⟩ 123).blk ((one_alloc (World.alloc w (.cells #[.int .u8 0, .int .u64 0, .int .i64 0, .int .i64 0, .int .u64 0, .int .i64 0, .int .u64 0, .int .u8 0, .int .i64 0] 123)) (.cells #[.int .u8 kk, .int .u64 (now : Int), .int .i64 (-1), .int .i64 (-1), .int .u64 0, .int .i64 (-1), .int .u64 0, .int .u8 0, .int .i64 0] 123)).block w.heap.size (by simp))
  have fz0 : ∀ o, (World.alloc (World.alloc w (.cells #[.int .u8 0, .int .u64 0, .int .i64 0, .int .i64 0, .int .u64 0, .int .i64 0, .int .u64 0, .int .u8 0, .int .i64 0] 123)) (.cells #[.int .u8 kk, .int .u64 (now : Int), .int .i64 (-1), .int .i64 (-1), .int .u64 0, .int .i64 (-1), .int .u64 0, .int .u8 0, .int .i64 0] 123)).frozen? ⟨w.heap.size + 1, o, none⟩ = false := fun o => by rw [← hz0]; simp
  have fz1 : ∀ o, (World.alloc (World.alloc w (.cells #[.int .u8 0, .int .u64 0, .int .i64 0, .int .i64 0, .int .u64 0, .int .i64 0, .int .u64 0, .int .u8 0, .int .i64 0] 123)) (.cells #[.int .u8 kk, .int .u64 (now : Int), .int .i64 (-1), .int .i64 (-1), .int .u64 0, .int .i64 (-1), .int .u64 0, .int .u8 0, .int .i64 0] 123)).frozen? ⟨w.heap.size, o, none⟩ = false := fun o => (World.frozen?_of_block (a := ⟨w.heap.size, o, none⟩) ((one_alloc (World.alloc w (.cells #[.int .u8 0, .int .u64 0, .int .i64 0, .int .i64 0, .int .u64 0, .int .i64 0, .int .u64 0, .int .u8 0, .int .i64 0] 123)) (.cells #[.int .u8 kk, .int .u64 (now : Int), .int .i64 (-1), .int .i64 (-1), .int .u64 0, .int .i64 (-1), .int .u64 0, .int .u8 0, .int .i64 0] 123)).block w.heap.size (by simp))).trans (by simp)
  have hfl := fill_123 E0 fz0
  obtain ⟨b0, b1, b2, b3, b4, b5, b6, b7, b8⟩ := HB
  unfold bl at b0 b1 b2 b3 b4 b5 b6 b7 b8
  simp only [Nat.zero_add] at b0 b1 b2 b3 b4 b5 b6 b7 b8
  have c0 : ∀ cs, (w.alloc (.cells cs 123)).cell? ⟨pb, 0, none⟩ = some (.int .u8 0) := fun cs => (World.cell?_of_block (a := ⟨pb, 0, none⟩) ((one_alloc w _).block pb hpb)).trans b0
  have c1 : ∀ cs, (w.alloc (.cells cs 123)).cell? ⟨pb, 1, none⟩ = some (.int .u64 (now : Int)) := fun cs => (World.cell?_of_block (a := ⟨pb, 1, none⟩) ((one_alloc w _).block pb hpb)).trans b1
  have c2 : ∀ cs, (w.alloc (.cells cs 123)).cell? ⟨pb, 2, none⟩ = some (.int .i64 (-1)) := fun cs => (World.cell?_of_block (a := ⟨pb, 2, none⟩) ((one_alloc w _).block pb hpb)).trans b2
  have c3 : ∀ cs, (w.alloc (.cells cs 123)).cell? ⟨pb, 3, none⟩ = some (.int .i64 (-1)) := fun cs => (World.cell?_of_block (a := ⟨pb, 3, none⟩) ((one_alloc w _).block pb hpb)).trans b3
  have c4 : ∀ cs, (w.alloc (.cells cs 123)).cell? ⟨pb, 4, none⟩ = some (.int .u64 0) := fun cs => (World.cell?_of_block (a := ⟨pb, 4, none⟩) ((one_alloc w _).block pb hpb)).trans b4
  have c5 : ∀ cs, (w.alloc (.cells cs 123)).cell? ⟨pb, 5, none⟩ = some (.int .i64 (-1)) := fun cs => (World.cell?_of_block (a := ⟨pb, 5, none⟩) ((one_alloc w _).block pb hpb)).trans b5
  have c6 : ∀ cs, (w.alloc (.cells cs 123)).cell? ⟨pb, 6, none⟩ = some (.int .u64 0) := fun cs => (World.cell?_of_block (a := ⟨pb, 6, none⟩) ((one_alloc w _).block pb hpb)).trans b6
  have c7 : ∀ cs, (w.alloc (.cells cs 123)).cell? ⟨pb, 7, none⟩ = some (.int .u8 0) := fun cs => (World.cell?_of_block (a := ⟨pb, 7, none⟩) ((one_alloc w _).block pb hpb)).trans b7
  have c8 : ∀ cs, (w.alloc (.cells cs 123)).cell? ⟨pb, 8, none⟩ = some (.int .i64 0) := fun cs => (World.cell?_of_block (a := ⟨pb, 8, none⟩) ((one_alloc w _).block pb hpb)).trans b8
  have HX := hideIt (And.intro bb (And.intro ZR fz1))
  have HFL := hideIt hfl
  clear hfl E0 fz0 bb ZR fz1 
  unfold evV
  go_enter Tryz.func116, Tryz.ntmps116
  go_upto_region 3 with fail
  have hfl := HFL.out
  obtain ⟨bb, ZR, fz1⟩ := HX.out
  clear HX HFL c0 c1 c2 c3 c4 c5 c6 c7 c8 b0 b1 b2 b3 b4 b5 b6 b7 b8
  generalize (World.alloc (World.alloc w (.cells #[.int .u8 0, .int .u64 0, .int .i64 0, .int .i64 0, .int .u64 0, .int .i64 0, .int .u64 0, .int .u8 0, .int .i64 0] 123)) (.cells #[.int .u8 kk, .int .u64 (now : Int), .int .i64 (-1), .int .i64 (-1), .int .u64 0, .int .i64 (-1), .int .u64 0, .int .u8 0, .int .i64 0] 123)) = wa at *
  clear hz0
  go_wp2_with fail
  refine hfl.mono ?_
  rintro x w1 ⟨rfl, E1, M1⟩
  have hs := M1.size
  have hlz := ZR.lt
  have Z1 := ZR.blk (M1.block w.heap.size hlz (by omega))
  have fz2 : ∀ o, w1.frozen? ⟨w.heap.size, o, none⟩ = false := fun o => (World.frozen?_of_block (a := ⟨w.heap.size, o, none⟩) (M1.block w.heap.size hlz (by omega))).trans (fz1 o)
  have bb1 : Below w.heap.size w w1 := ⟨M1.os.trans bb.os, M1.tape.trans bb.tape, M1.output.trans bb.output, Nat.le_trans bb.size M1.size, fun q hq => (M1.block q (by have := bb.size; omega) (by omega)).trans (bb.block q hq)⟩
  have HBB := hideIt bb1
  have n1 : ¬ (w.heap.size = w.heap.size + 1) := by omega
  have n2 : ¬ (w.heap.size + 1 = w.heap.size) := by omega
  clear hfl fz1 ZR M1 bb bb1
  obtain ⟨z0, z1, z2, z3, z4, z5, z6, z7, z8⟩ := Z1
  obtain ⟨e0, e1, e2, e3, e4, e5, e6, e7, e8⟩ := E1
  simp only [Nat.zero_add] at z0 z1 z2 z3 z4 z5 z6 z7 z8 e0 e1 e2 e3 e4 e5 e6 e7 e8
  go_wp2
  refine bodyPost_ret (v := .agg #[.int .u8 kk, .int .u64 (now : Int), .int .i64 (-1), .int .i64 (-1), .int .u64 0, .int .i64 (-1), .int .u64 0, .int .u8 0, .int .i64 0]) (by simp [results, Tryz.results116, go_sem, z0, z1, z2, z3, z4, z5, z6, z7, z8]) rfl ⟨rfl, ?_⟩
  repeat refine below_set ?_ (Nat.le_refl _)
  exact HBB.out
set_option maxRecDepth 20000 in
set_option maxHeartbeats 4000000 in
theorem one_124 {w : World} {pb now : Nat} {kk : Int} {p20 : Nat} {id co ti : Int} (HB : Ev9 w pb 0 (bl now 0)) (h1 : w.cell? ⟨p20, 0, none⟩ = some (.int .u64 id)) (h2 : w.cell? ⟨p20, 1, none⟩ = some (.int .i64 co)) (h3 : w.cell? ⟨p20, 4, none⟩ = some (.int .u64 ti)) : Calls Tryz.prog 116 #[.int .u8 kk, .func (.func 124) #[] #[.pointer (some ⟨p20, 0, none⟩)], .pointer (some ⟨pb, 0, none⟩)] w fun x w' => x = .returned (evV ⟨kk, ti, co, (-1), id, (-1), 0, 0, 0⟩) ∧ Below w.heap.size w w' := by
  have hpb := HB.lt
  have bb : Below w.heap.size w (World.alloc (World.alloc w (.cells #[.int .u8 0, .int .u64 0, .int .i64 0, .int .i64 0, .int .u64 0, .int .i64 0, .int .u64 0, .int .u8 0, .int .i64 0] 123)) (.cells #[.int .u8 kk, .int .u64 (now : Int), .int .i64 (-1), .int .i64 (-1), .int .u64 0, .int .i64 (-1), .int .u64 0, .int .u8 0, .int .i64 0] 123)) := (one_alloc w _).trans ((one_alloc _ _).mono (by simp))
  have E0 := Ev9.new (World.alloc w (.cells #[.int .u8 0, .int .u64 0, .int .i64 0, .int .i64 0, .int .u64 0, .int .i64 0, .int .u64 0, .int .u8 0, .int .i64 0] 123)) ⟨kk, (now : Int), (-1), (-1), 0, (-1), 0, 0, 0⟩ 123
  have hz0 : (World.alloc w (.cells #[.int .u8 0, .int .u64 0, .int .i64 0, .int .i64 0, .int .u64 0, .int .i64 0, .int .u64 0, .int .u8 0, .int .i64 0] 123)).heap.size = w.heap.size + 1 := by simp
  rw [hz0] at E0
  have ZR := (Ev9.new w ⟨0, 0, 0, 0, 0, 0, 0, 0, 0⟩ 123).blk ((one_alloc (World.alloc w (.cells #[.int .u8 0, .int .u64 0, .int .i64 0, .int .i64 0, .int .u64 0, .int .i64 0, .int .u64 0, .int .u8 0, .int .i64 0] 123)) (.cells #[.int .u8 kk, .int .u64 (now : Int), .int .i64 (-1), .int .i64 (-1), .int .u64 0, .int .i64 (-1), .int .u64 0, .int .u8 0, .int .i64 0] 123)).block w.heap.size (by simp))
  have fz0 : ∀ o, (World.alloc (World.alloc w (.cells #[.int .u8 0, .int .u64 0, .int .i64 0, .int .i64 0, .int .u64 0, .int .i64 0, .int .u64 0, .int .u8 0, .int .i64 0] 123)) (.cells #[.int .u8 kk, .int .u64 (now : Int), .int .i64 (-1), .int .i64 (-1), .int .u64 0, .int .i64 (-1), .int .u64 0, .int .u8 0, .int .i64 0] 123)).frozen? ⟨w.heap.size + 1, o, none⟩ = false := fun o => by rw [← hz0]; simp
  have fz1 : ∀ o, (World.alloc (World.alloc w (.cells #[.int .u8 0, .int .u64 0, .int .i64 0, .int .i64 0, .int .u64 0, .int .i64 0, .int .u64 0, .int .u8 0, .int .i64 0] 123)) (.cells #[.int .u8 kk, .int .u64 (now : Int), .int .i64 (-1), .int .i64 (-1), .int .u64 0, .int .i64 (-1), .int .u64 0, .int .u8 0, .int .i64 0] 123)).frozen? ⟨w.heap.size, o, none⟩ = false := fun o => (World.frozen?_of_block (a := ⟨w.heap.size, o, none⟩) ((one_alloc (World.alloc w (.cells #[.int .u8 0, .int .u64 0, .int .i64 0, .int .i64 0, .int .u64 0, .int .i64 0, .int .u64 0, .int .u8 0, .int .i64 0] 123)) (.cells #[.int .u8 kk, .int .u64 (now : Int), .int .i64 (-1), .int .i64 (-1), .int .u64 0, .int .i64 (-1), .int .u64 0, .int .u8 0, .int .i64 0] 123)).block w.heap.size (by simp))).trans (by simp)
  have lp20 : p20 < w.heap.size := World.block_lt_of_cell? _ _ h1
  have kh1 := (World.cell?_of_block (a := ⟨p20, 0, none⟩) (bb.block p20 lp20)).trans h1
  have kh2 := (World.cell?_of_block (a := ⟨p20, 1, none⟩) (bb.block p20 lp20)).trans h2
  have kh3 := (World.cell?_of_block (a := ⟨p20, 4, none⟩) (bb.block p20 lp20)).trans h3
  have hfl := fill_124 E0 fz0 kh1 kh2 kh3 (by omega)
  obtain ⟨b0, b1, b2, b3, b4, b5, b6, b7, b8⟩ := HB
  unfold bl at b0 b1 b2 b3 b4 b5 b6 b7 b8
  simp only [Nat.zero_add] at b0 b1 b2 b3 b4 b5 b6 b7 b8
  have c0 : ∀ cs, (w.alloc (.cells cs 123)).cell? ⟨pb, 0, none⟩ = some (.int .u8 0) := fun cs => (World.cell?_of_block (a := ⟨pb, 0, none⟩) ((one_alloc w _).block pb hpb)).trans b0
  have c1 : ∀ cs, (w.alloc (.cells cs 123)).cell? ⟨pb, 1, none⟩ = some (.int .u64 (now : Int)) := fun cs => (World.cell?_of_block (a := ⟨pb, 1, none⟩) ((one_alloc w _).block pb hpb)).trans b1
  have c2 : ∀ cs, (w.alloc (.cells cs 123)).cell? ⟨pb, 2, none⟩ = some (.int .i64 (-1)) := fun cs => (World.cell?_of_block (a := ⟨pb, 2, none⟩) ((one_alloc w _).block pb hpb)).trans b2
  have c3 : ∀ cs, (w.alloc (.cells cs 123)).cell? ⟨pb, 3, none⟩ = some (.int .i64 (-1)) := fun cs => (World.cell?_of_block (a := ⟨pb, 3, none⟩) ((one_alloc w _).block pb hpb)).trans b3
  have c4 : ∀ cs, (w.alloc (.cells cs 123)).cell? ⟨pb, 4, none⟩ = some (.int .u64 0) := fun cs => (World.cell?_of_block (a := ⟨pb, 4, none⟩) ((one_alloc w _).block pb hpb)).trans b4
  have c5 : ∀ cs, (w.alloc (.cells cs 123)).cell? ⟨pb, 5, none⟩ = some (.int .i64 (-1)) := fun cs => (World.cell?_of_block (a := ⟨pb, 5, none⟩) ((one_alloc w _).block pb hpb)).trans b5
  have c6 : ∀ cs, (w.alloc (.cells cs 123)).cell? ⟨pb, 6, none⟩ = some (.int .u64 0) := fun cs => (World.cell?_of_block (a := ⟨pb, 6, none⟩) ((one_alloc w _).block pb hpb)).trans b6
  have c7 : ∀ cs, (w.alloc (.cells cs 123)).cell? ⟨pb, 7, none⟩ = some (.int .u8 0) := fun cs => (World.cell?_of_block (a := ⟨pb, 7, none⟩) ((one_alloc w _).block pb hpb)).trans b7
  have c8 : ∀ cs, (w.alloc (.cells cs 123)).cell? ⟨pb, 8, none⟩ = some (.int .i64 0) := fun cs => (World.cell?_of_block (a := ⟨pb, 8, none⟩) ((one_alloc w _).block pb hpb)).trans b8
  have HX := hideIt (And.intro bb (And.intro ZR fz1))
  have HFL := hideIt hfl
  clear hfl E0 fz0 bb ZR fz1 kh1 kh2 kh3
  unfold evV
  go_enter Tryz.func116, Tryz.ntmps116
  go_upto_region 3 with fail
  have hfl := HFL.out
  obtain ⟨bb, ZR, fz1⟩ := HX.out
  clear HX HFL c0 c1 c2 c3 c4 c5 c6 c7 c8 b0 b1 b2 b3 b4 b5 b6 b7 b8
  generalize (World.alloc (World.alloc w (.cells #[.int .u8 0, .int .u64 0, .int .i64 0, .int .i64 0, .int .u64 0, .int .i64 0, .int .u64 0, .int .u8 0, .int .i64 0] 123)) (.cells #[.int .u8 kk, .int .u64 (now : Int), .int .i64 (-1), .int .i64 (-1), .int .u64 0, .int .i64 (-1), .int .u64 0, .int .u8 0, .int .i64 0] 123)) = wa at *
  clear hz0
  go_wp2_with fail
  refine hfl.mono ?_
  rintro x w1 ⟨rfl, E1, M1⟩
  have hs := M1.size
  have hlz := ZR.lt
  have Z1 := ZR.blk (M1.block w.heap.size hlz (by omega))
  have fz2 : ∀ o, w1.frozen? ⟨w.heap.size, o, none⟩ = false := fun o => (World.frozen?_of_block (a := ⟨w.heap.size, o, none⟩) (M1.block w.heap.size hlz (by omega))).trans (fz1 o)
  have bb1 : Below w.heap.size w w1 := ⟨M1.os.trans bb.os, M1.tape.trans bb.tape, M1.output.trans bb.output, Nat.le_trans bb.size M1.size, fun q hq => (M1.block q (by have := bb.size; omega) (by omega)).trans (bb.block q hq)⟩
  have HBB := hideIt bb1
  have n1 : ¬ (w.heap.size = w.heap.size + 1) := by omega
  have n2 : ¬ (w.heap.size + 1 = w.heap.size) := by omega
  clear hfl fz1 ZR M1 bb bb1
  obtain ⟨z0, z1, z2, z3, z4, z5, z6, z7, z8⟩ := Z1
  obtain ⟨e0, e1, e2, e3, e4, e5, e6, e7, e8⟩ := E1
  simp only [Nat.zero_add] at z0 z1 z2 z3 z4 z5 z6 z7 z8 e0 e1 e2 e3 e4 e5 e6 e7 e8
  go_wp2
  refine bodyPost_ret (v := .agg #[.int .u8 kk, .int .u64 ti, .int .i64 co, .int .i64 (-1), .int .u64 id, .int .i64 (-1), .int .u64 0, .int .u8 0, .int .i64 0]) (by simp [results, Tryz.results116, go_sem, z0, z1, z2, z3, z4, z5, z6, z7, z8]) rfl ⟨rfl, ?_⟩
  repeat refine below_set ?_ (Nat.le_refl _)
  exact HBB.out
set_option maxRecDepth 20000 in
set_option maxHeartbeats 4000000 in
theorem one_125 {w : World} {pb now : Nat} {kk : Int} {p22 p13 sb so b : Nat} {a : Int} (HB : Ev9 w pb 0 (bl now 0)) (h1 : w.cell? ⟨p22, 0, none⟩ = some (.int .i64 (b : Int))) (h2 : w.cell? ⟨p13, 0, none⟩ = some (.pointer (some ⟨sb, so, none⟩))) (h3 : w.cell? ⟨sb, so + b, none⟩ = some (.int .u64 a)) (hb16 : b < 16) : Calls Tryz.prog 116 #[.int .u8 kk, .func (.func 125) #[] #[.pointer (some ⟨p22, 0, none⟩), .pointer (some ⟨p13, 0, none⟩)], .pointer (some ⟨pb, 0, none⟩)] w fun x w' => x = .returned (evV ⟨kk, (now : Int), ((b / 4 : Nat) : Int), (-1), 0, (b : Int), (IntKind.u64.wrap (a + 1)), 0, 0⟩) ∧ Below w.heap.size w w' := by
  have hpb := HB.lt
  have bb : Below w.heap.size w (World.alloc (World.alloc w (.cells #[.int .u8 0, .int .u64 0, .int .i64 0, .int .i64 0, .int .u64 0, .int .i64 0, .int .u64 0, .int .u8 0, .int .i64 0] 123)) (.cells #[.int .u8 kk, .int .u64 (now : Int), .int .i64 (-1), .int .i64 (-1), .int .u64 0, .int .i64 (-1), .int .u64 0, .int .u8 0, .int .i64 0] 123)) := (one_alloc w _).trans ((one_alloc _ _).mono (by simp))
  have E0 := Ev9.new (World.alloc w (.cells #[.int .u8 0, .int .u64 0, .int .i64 0, .int .i64 0, .int .u64 0, .int .i64 0, .int .u64 0, .int .u8 0, .int .i64 0] 123)) ⟨kk, (now : Int), (-1), (-1), 0, (-1), 0, 0, 0⟩ 123
  have hz0 : (World.alloc w (.cells #[.int .u8 0, .int .u64 0, .int .i64 0, .int .i64 0, .int .u64 0, .int .i64 0, .int .u64 0, .int .u8 0, .int .i64 0] 123)).heap.size = w.heap.size + 1 := by simp
  rw [hz0] at E0
  have ZR := (Ev9.new w ⟨0, 0, 0, 0, 0, 0, 0, 0, 0⟩ 123).blk ((one_alloc (World.alloc w (.cells #[.int .u8 0, .int .u64 0, .int .i64 0, .int .i64 0, .int .u64 0, .int .i64 0, .int .u64 0, .int .u8 0, .int .i64 0] 123)) (.cells #[.int .u8 kk, .int .u64 (now : Int), .int .i64 (-1), .int .i64 (-1), .int .u64 0, .int .i64 (-1), .int .u64 0, .int .u8 0, .int .i64 0] 123)).block w.heap.size (by simp))
  have fz0 : ∀ o, (World.alloc (World.alloc w (.cells #[.int .u8 0, .int .u64 0, .int .i64 0, .int .i64 0, .int .u64 0, .int .i64 0, .int .u64 0, .int .u8 0, .int .i64 0] 123)) (.cells #[.int .u8 kk, .int .u64 (now : Int), .int .i64 (-1), .int .i64 (-1), .int .u64 0, .int .i64 (-1), .int .u64 0, .int .u8 0, .int .i64 0] 123)).frozen? ⟨w.heap.size + 1, o, none⟩ = false := fun o => by rw [← hz0]; simp
  have fz1 : ∀ o, (World.alloc (World.alloc w (.cells #[.int .u8 0, .int .u64 0, .int .i64 0, .int .i64 0, .int .u64 0, .int .i64 0, .int .u64 0, .int .u8 0, .int .i64 0] 123)) (.cells #[.int .u8 kk, .int .u64 (now : Int), .int .i64 (-1), .int .i64 (-1), .int .u64 0, .int .i64 (-1), .int .u64 0, .int .u8 0, .int .i64 0] 123)).frozen? ⟨w.heap.size, o, none⟩ = false := fun o => (World.frozen?_of_block (a := ⟨w.heap.size, o, none⟩) ((one_alloc (World.alloc w (.cells #[.int .u8 0, .int .u64 0, .int .i64 0, .int .i64 0, .int .u64 0, .int .i64 0, .int .u64 0, .int .u8 0, .int .i64 0] 123)) (.cells #[.int .u8 kk, .int .u64 (now : Int), .int .i64 (-1), .int .i64 (-1), .int .u64 0, .int .i64 (-1), .int .u64 0, .int .u8 0, .int .i64 0] 123)).block w.heap.size (by simp))).trans (by simp)
  have lp22 : p22 < w.heap.size := World.block_lt_of_cell? _ _ h1
  have lp13 : p13 < w.heap.size := World.block_lt_of_cell? _ _ h2
  have lsb : sb < w.heap.size := World.block_lt_of_cell? _ _ h3
  have kh1 := (World.cell?_of_block (a := ⟨p22, 0, none⟩) (bb.block p22 lp22)).trans h1
  have kh2 := (World.cell?_of_block (a := ⟨p13, 0, none⟩) (bb.block p13 lp13)).trans h2
  have kh3 := (World.cell?_of_block (a := ⟨sb, so + b, none⟩) (bb.block sb lsb)).trans h3
  have hfl := fill_125 E0 fz0 kh1 kh2 kh3 (by omega) (by omega) (by omega) hb16
  obtain ⟨b0, b1, b2, b3, b4, b5, b6, b7, b8⟩ := HB
  unfold bl at b0 b1 b2 b3 b4 b5 b6 b7 b8
  simp only [Nat.zero_add] at b0 b1 b2 b3 b4 b5 b6 b7 b8
  have c0 : ∀ cs, (w.alloc (.cells cs 123)).cell? ⟨pb, 0, none⟩ = some (.int .u8 0) := fun cs => (World.cell?_of_block (a := ⟨pb, 0, none⟩) ((one_alloc w _).block pb hpb)).trans b0
  have c1 : ∀ cs, (w.alloc (.cells cs 123)).cell? ⟨pb, 1, none⟩ = some (.int .u64 (now : Int)) := fun cs => (World.cell?_of_block (a := ⟨pb, 1, none⟩) ((one_alloc w _).block pb hpb)).trans b1
  have c2 : ∀ cs, (w.alloc (.cells cs 123)).cell? ⟨pb, 2, none⟩ = some (.int .i64 (-1)) := fun cs => (World.cell?_of_block (a := ⟨pb, 2, none⟩) ((one_alloc w _).block pb hpb)).trans b2
  have c3 : ∀ cs, (w.alloc (.cells cs 123)).cell? ⟨pb, 3, none⟩ = some (.int .i64 (-1)) := fun cs => (World.cell?_of_block (a := ⟨pb, 3, none⟩) ((one_alloc w _).block pb hpb)).trans b3
  have c4 : ∀ cs, (w.alloc (.cells cs 123)).cell? ⟨pb, 4, none⟩ = some (.int .u64 0) := fun cs => (World.cell?_of_block (a := ⟨pb, 4, none⟩) ((one_alloc w _).block pb hpb)).trans b4
  have c5 : ∀ cs, (w.alloc (.cells cs 123)).cell? ⟨pb, 5, none⟩ = some (.int .i64 (-1)) := fun cs => (World.cell?_of_block (a := ⟨pb, 5, none⟩) ((one_alloc w _).block pb hpb)).trans b5
  have c6 : ∀ cs, (w.alloc (.cells cs 123)).cell? ⟨pb, 6, none⟩ = some (.int .u64 0) := fun cs => (World.cell?_of_block (a := ⟨pb, 6, none⟩) ((one_alloc w _).block pb hpb)).trans b6
  have c7 : ∀ cs, (w.alloc (.cells cs 123)).cell? ⟨pb, 7, none⟩ = some (.int .u8 0) := fun cs => (World.cell?_of_block (a := ⟨pb, 7, none⟩) ((one_alloc w _).block pb hpb)).trans b7
  have c8 : ∀ cs, (w.alloc (.cells cs 123)).cell? ⟨pb, 8, none⟩ = some (.int .i64 0) := fun cs => (World.cell?_of_block (a := ⟨pb, 8, none⟩) ((one_alloc w _).block pb hpb)).trans b8
  have HX := hideIt (And.intro bb (And.intro ZR fz1))
  have HFL := hideIt hfl
  clear hfl E0 fz0 bb ZR fz1 kh1 kh2 kh3
  unfold evV
  go_enter Tryz.func116, Tryz.ntmps116
  go_upto_region 3 with fail
  have hfl := HFL.out
  obtain ⟨bb, ZR, fz1⟩ := HX.out
  clear HX HFL c0 c1 c2 c3 c4 c5 c6 c7 c8 b0 b1 b2 b3 b4 b5 b6 b7 b8
  generalize (World.alloc (World.alloc w (.cells #[.int .u8 0, .int .u64 0, .int .i64 0, .int .i64 0, .int .u64 0, .int .i64 0, .int .u64 0, .int .u8 0, .int .i64 0] 123)) (.cells #[.int .u8 kk, .int .u64 (now : Int), .int .i64 (-1), .int .i64 (-1), .int .u64 0, .int .i64 (-1), .int .u64 0, .int .u8 0, .int .i64 0] 123)) = wa at *
  clear hz0
  go_wp2_with fail
  refine hfl.mono ?_
  rintro x w1 ⟨rfl, E1, M1⟩
  have hs := M1.size
  have hlz := ZR.lt
  have Z1 := ZR.blk (M1.block w.heap.size hlz (by omega))
  have fz2 : ∀ o, w1.frozen? ⟨w.heap.size, o, none⟩ = false := fun o => (World.frozen?_of_block (a := ⟨w.heap.size, o, none⟩) (M1.block w.heap.size hlz (by omega))).trans (fz1 o)
  have bb1 : Below w.heap.size w w1 := ⟨M1.os.trans bb.os, M1.tape.trans bb.tape, M1.output.trans bb.output, Nat.le_trans bb.size M1.size, fun q hq => (M1.block q (by have := bb.size; omega) (by omega)).trans (bb.block q hq)⟩
  have HBB := hideIt bb1
  have n1 : ¬ (w.heap.size = w.heap.size + 1) := by omega
  have n2 : ¬ (w.heap.size + 1 = w.heap.size) := by omega
  clear hfl fz1 ZR M1 bb bb1
  obtain ⟨z0, z1, z2, z3, z4, z5, z6, z7, z8⟩ := Z1
  obtain ⟨e0, e1, e2, e3, e4, e5, e6, e7, e8⟩ := E1
  simp only [Nat.zero_add] at z0 z1 z2 z3 z4 z5 z6 z7 z8 e0 e1 e2 e3 e4 e5 e6 e7 e8
  go_wp2
  refine bodyPost_ret (v := .agg #[.int .u8 kk, .int .u64 (now : Int), .int .i64 ((b / 4 : Nat) : Int), .int .i64 (-1), .int .u64 0, .int .i64 (b : Int), .int .u64 (IntKind.u64.wrap (a + 1)), .int .u8 0, .int .i64 0]) (by simp [results, Tryz.results116, go_sem, z0, z1, z2, z3, z4, z5, z6, z7, z8]) rfl ⟨rfl, ?_⟩
  repeat refine below_set ?_ (Nat.le_refl _)
  exact HBB.out
set_option maxRecDepth 20000 in
set_option maxHeartbeats 4000000 in
theorem one_126 {w : World} {pb now : Nat} {kk : Int} {p8 p12 : Nat} {co tk st : Int} (HB : Ev9 w pb 0 (bl now 0)) (h1 : w.cell? ⟨p8, 1, none⟩ = some (.int .i64 co)) (h2 : w.cell? ⟨p8, 2, none⟩ = some (.int .i64 tk)) (h3 : w.cell? ⟨p12, 0, none⟩ = some (.int .u8 st)) : Calls Tryz.prog 116 #[.int .u8 kk, .func (.func 126) #[] #[.pointer (some ⟨p8, 0, none⟩), .pointer (some ⟨p12, 0, none⟩)], .pointer (some ⟨pb, 0, none⟩)] w fun x w' => x = .returned (evV ⟨kk, (now : Int), co, tk, 0, (-1), 0, st, 0⟩) ∧ Below w.heap.size w w' := by
  have hpb := HB.lt
  have bb : Below w.heap.size w (World.alloc (World.alloc w (.cells #[.int .u8 0, .int .u64 0, .int .i64 0, .int .i64 0, .int .u64 0, .int .i64 0, .int .u64 0, .int .u8 0, .int .i64 0] 123)) (.cells #[.int .u8 kk, .int .u64 (now : Int), .int .i64 (-1), .int .i64 (-1), .int .u64 0, .int .i64 (-1), .int .u64 0, .int .u8 0, .int .i64 0] 123)) := (one_alloc w _).trans ((one_alloc _ _).mono (by simp))
  have E0 := Ev9.new (World.alloc w (.cells #[.int .u8 0, .int .u64 0, .int .i64 0, .int .i64 0, .int .u64 0, .int .i64 0, .int .u64 0, .int .u8 0, .int .i64 0] 123)) ⟨kk, (now : Int), (-1), (-1), 0, (-1), 0, 0, 0⟩ 123
  have hz0 : (World.alloc w (.cells #[.int .u8 0, .int .u64 0, .int .i64 0, .int .i64 0, .int .u64 0, .int .i64 0, .int .u64 0, .int .u8 0, .int .i64 0] 123)).heap.size = w.heap.size + 1 := by simp
  rw [hz0] at E0
  have ZR := (Ev9.new w ⟨0, 0, 0, 0, 0, 0, 0, 0, 0⟩ 123).blk ((one_alloc (World.alloc w (.cells #[.int .u8 0, .int .u64 0, .int .i64 0, .int .i64 0, .int .u64 0, .int .i64 0, .int .u64 0, .int .u8 0, .int .i64 0] 123)) (.cells #[.int .u8 kk, .int .u64 (now : Int), .int .i64 (-1), .int .i64 (-1), .int .u64 0, .int .i64 (-1), .int .u64 0, .int .u8 0, .int .i64 0] 123)).block w.heap.size (by simp))
  have fz0 : ∀ o, (World.alloc (World.alloc w (.cells #[.int .u8 0, .int .u64 0, .int .i64 0, .int .i64 0, .int .u64 0, .int .i64 0, .int .u64 0, .int .u8 0, .int .i64 0] 123)) (.cells #[.int .u8 kk, .int .u64 (now : Int), .int .i64 (-1), .int .i64 (-1), .int .u64 0, .int .i64 (-1), .int .u64 0, .int .u8 0, .int .i64 0] 123)).frozen? ⟨w.heap.size + 1, o, none⟩ = false := fun o => by rw [← hz0]; simp
  have fz1 : ∀ o, (World.alloc (World.alloc w (.cells #[.int .u8 0, .int .u64 0, .int .i64 0, .int .i64 0, .int .u64 0, .int .i64 0, .int .u64 0, .int .u8 0, .int .i64 0] 123)) (.cells #[.int .u8 kk, .int .u64 (now : Int), .int .i64 (-1), .int .i64 (-1), .int .u64 0, .int .i64 (-1), .int .u64 0, .int .u8 0, .int .i64 0] 123)).frozen? ⟨w.heap.size, o, none⟩ = false := fun o => (World.frozen?_of_block (a := ⟨w.heap.size, o, none⟩) ((one_alloc (World.alloc w (.cells #[.int .u8 0, .int .u64 0, .int .i64 0, .int .i64 0, .int .u64 0, .int .i64 0, .int .u64 0, .int .u8 0, .int .i64 0] 123)) (.cells #[.int .u8 kk, .int .u64 (now : Int), .int .i64 (-1), .int .i64 (-1), .int .u64 0, .int .i64 (-1), .int .u64 0, .int .u8 0, .int .i64 0] 123)).block w.heap.size (by simp))).trans (by simp)
  have lp8 : p8 < w.heap.size := World.block_lt_of_cell? _ _ h1
  have lp12 : p12 < w.heap.size := World.block_lt_of_cell? _ _ h3
  have kh1 := (World.cell?_of_block (a := ⟨p8, 1, none⟩) (bb.block p8 lp8)).trans h1
  have kh2 := (World.cell?_of_block (a := ⟨p8, 2, none⟩) (bb.block p8 lp8)).trans h2
  have kh3 := (World.cell?_of_block (a := ⟨p12, 0, none⟩) (bb.block p12 lp12)).trans h3
  have hfl := fill_126 E0 fz0 kh1 kh2 kh3 (by omega) (by omega)
  obtain ⟨b0, b1, b2, b3, b4, b5, b6, b7, b8⟩ := HB
  unfold bl at b0 b1 b2 b3 b4 b5 b6 b7 b8
  simp only [Nat.zero_add] at b0 b1 b2 b3 b4 b5 b6 b7 b8
  have c0 : ∀ cs, (w.alloc (.cells cs 123)).cell? ⟨pb, 0, none⟩ = some (.int .u8 0) := fun cs => (World.cell?_of_block (a := ⟨pb, 0, none⟩) ((one_alloc w _).block pb hpb)).trans b0
  have c1 : ∀ cs, (w.alloc (.cells cs 123)).cell? ⟨pb, 1, none⟩ = some (.int .u64 (now : Int)) := fun cs => (World.cell?_of_block (a := ⟨pb, 1, none⟩) ((one_alloc w _).block pb hpb)).trans b1
  have c2 : ∀ cs, (w.alloc (.cells cs 123)).cell? ⟨pb, 2, none⟩ = some (.int .i64 (-1)) := fun cs => (World.cell?_of_block (a := ⟨pb, 2, none⟩) ((one_alloc w _).block pb hpb)).trans b2
  have c3 : ∀ cs, (w.alloc (.cells cs 123)).cell? ⟨pb, 3, none⟩ = some (.int .i64 (-1)) := fun cs => (World.cell?_of_block (a := ⟨pb, 3, none⟩) ((one_alloc w _).block pb hpb)).trans b3
  have c4 : ∀ cs, (w.alloc (.cells cs 123)).cell? ⟨pb, 4, none⟩ = some (.int .u64 0) := fun cs => (World.cell?_of_block (a := ⟨pb, 4, none⟩) ((one_alloc w _).block pb hpb)).trans b4
  have c5 : ∀ cs, (w.alloc (.cells cs 123)).cell? ⟨pb, 5, none⟩ = some (.int .i64 (-1)) := fun cs => (World.cell?_of_block (a := ⟨pb, 5, none⟩) ((one_alloc w _).block pb hpb)).trans b5
  have c6 : ∀ cs, (w.alloc (.cells cs 123)).cell? ⟨pb, 6, none⟩ = some (.int .u64 0) := fun cs => (World.cell?_of_block (a := ⟨pb, 6, none⟩) ((one_alloc w _).block pb hpb)).trans b6
  have c7 : ∀ cs, (w.alloc (.cells cs 123)).cell? ⟨pb, 7, none⟩ = some (.int .u8 0) := fun cs => (World.cell?_of_block (a := ⟨pb, 7, none⟩) ((one_alloc w _).block pb hpb)).trans b7
  have c8 : ∀ cs, (w.alloc (.cells cs 123)).cell? ⟨pb, 8, none⟩ = some (.int .i64 0) := fun cs => (World.cell?_of_block (a := ⟨pb, 8, none⟩) ((one_alloc w _).block pb hpb)).trans b8
  have HX := hideIt (And.intro bb (And.intro ZR fz1))
  have HFL := hideIt hfl
  clear hfl E0 fz0 bb ZR fz1 kh1 kh2 kh3
  unfold evV
  go_enter Tryz.func116, Tryz.ntmps116
  go_upto_region 3 with fail
  have hfl := HFL.out
  obtain ⟨bb, ZR, fz1⟩ := HX.out
  clear HX HFL c0 c1 c2 c3 c4 c5 c6 c7 c8 b0 b1 b2 b3 b4 b5 b6 b7 b8
  generalize (World.alloc (World.alloc w (.cells #[.int .u8 0, .int .u64 0, .int .i64 0, .int .i64 0, .int .u64 0, .int .i64 0, .int .u64 0, .int .u8 0, .int .i64 0] 123)) (.cells #[.int .u8 kk, .int .u64 (now : Int), .int .i64 (-1), .int .i64 (-1), .int .u64 0, .int .i64 (-1), .int .u64 0, .int .u8 0, .int .i64 0] 123)) = wa at *
  clear hz0
  go_wp2_with fail
  refine hfl.mono ?_
  rintro x w1 ⟨rfl, E1, M1⟩
  have hs := M1.size
  have hlz := ZR.lt
  have Z1 := ZR.blk (M1.block w.heap.size hlz (by omega))
  have fz2 : ∀ o, w1.frozen? ⟨w.heap.size, o, none⟩ = false := fun o => (World.frozen?_of_block (a := ⟨w.heap.size, o, none⟩) (M1.block w.heap.size hlz (by omega))).trans (fz1 o)
  have bb1 : Below w.heap.size w w1 := ⟨M1.os.trans bb.os, M1.tape.trans bb.tape, M1.output.trans bb.output, Nat.le_trans bb.size M1.size, fun q hq => (M1.block q (by have := bb.size; omega) (by omega)).trans (bb.block q hq)⟩
  have HBB := hideIt bb1
  have n1 : ¬ (w.heap.size = w.heap.size + 1) := by omega
  have n2 : ¬ (w.heap.size + 1 = w.heap.size) := by omega
  clear hfl fz1 ZR M1 bb bb1
  obtain ⟨z0, z1, z2, z3, z4, z5, z6, z7, z8⟩ := Z1
  obtain ⟨e0, e1, e2, e3, e4, e5, e6, e7, e8⟩ := E1
  simp only [Nat.zero_add] at z0 z1 z2 z3 z4 z5 z6 z7 z8 e0 e1 e2 e3 e4 e5 e6 e7 e8
  go_wp2
  refine bodyPost_ret (v := .agg #[.int .u8 kk, .int .u64 (now : Int), .int .i64 co, .int .i64 tk, .int .u64 0, .int .i64 (-1), .int .u64 0, .int .u8 st, .int .i64 0]) (by simp [results, Tryz.results116, go_sem, z0, z1, z2, z3, z4, z5, z6, z7, z8]) rfl ⟨rfl, ?_⟩
  repeat refine below_set ?_ (Nat.le_refl _)
  exact HBB.out
end Go.Proofs.Qxb6500877aGreatDoor
