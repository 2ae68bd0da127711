import Derived.Deep.CutBlock
import Derived.OwnWalk
import Derived.Maps.AppendAt
import Derived.Test.Qxb6500877aGreatDoorAw0
set_option linter.unusedVariables false
set_option linter.unusedSimpArgs false
namespace Go.Proofs.Qxb6500877aGreatDoor
open Go.RowKit

set_option maxRecDepth 20000 in
set_option maxHeartbeats 8000000 in
theorem mstep_8 {w : World} {D base : Nat} {V : Nat → Value} {m : Mdl} {o : OpS} (H : MdlAt w D base V m) (hbw : base ≤ w.heap.size) (K : MOk m) (ho : o.ok) (hkd : o.kd = 8) :
    Calls Tryz.prog 21 #[.pointer (some ⟨D, 0, none⟩), opV o] w fun e w' => ∃ V' a p n c m', e = .returned (.agg (resCs a.z a.co a.tk a.tm a.hm a.mm p n c)) ∧ FrAt w' w.heap.size (.slice p n c) a.fs ∧ ModS m o a m' ∧ MdlAt w' D base V' m' ∧ MFr D V V' w w' := by
  have q0 : ((o.kd : Int) == 0) = false := beq_eq_false_iff_ne.2 (by omega)
  have q1 : ((o.kd : Int) == 1) = false := beq_eq_false_iff_ne.2 (by omega)
  have q2 : ((o.kd : Int) == 2) = false := beq_eq_false_iff_ne.2 (by omega)
  have q3 : ((o.kd : Int) == 3) = false := beq_eq_false_iff_ne.2 (by omega)
  have q4 : ((o.kd : Int) == 4) = false := beq_eq_false_iff_ne.2 (by omega)
  have q5 : ((o.kd : Int) == 5) = false := beq_eq_false_iff_ne.2 (by omega)
  have q6 : ((o.kd : Int) == 6) = false := beq_eq_false_iff_ne.2 (by omega)
  have q7 : ((o.kd : Int) == 7) = false := beq_eq_false_iff_ne.2 (by omega)
  have q8 : ((o.kd : Int) == 8) = true := beq_iff_eq.2 (by omega)
  have HK := hideIt hkd
  clear hkd
  have hDl := H.dlt
  have n4D : w.heap.size ≠ D := by omega
  have n5D : (w.heap.size + 1) ≠ D := by omega
  have hF : MdlAt (World.alloc (w.alloc (.cells #[.int .u8 o.kd, .int .i64 o.a, .int .i64 o.b, .int .i64 o.c, .int .u64 o.x, .int .u64 o.y] 32)) (.cells #[.int .i64 0, .int .i64 0, .int .i64 0, .int .u64 0, .bool false, .int .i64 0, .int .i64 0, .int .u32 0, .int .u64 0, .int .u64 0, .int .u64 0, .int .u64 0, .int .u64 0, .int .u64 0, .slice none 0 0] 43)) D base V m ∧ OpAt (World.alloc (w.alloc (.cells #[.int .u8 o.kd, .int .i64 o.a, .int .i64 o.b, .int .i64 o.c, .int .u64 o.x, .int .u64 o.y] 32)) (.cells #[.int .i64 0, .int .i64 0, .int .i64 0, .int .u64 0, .bool false, .int .i64 0, .int .i64 0, .int .u32 0, .int .u64 0, .int .u64 0, .int .u64 0, .int .u64 0, .int .u64 0, .int .u64 0, .slice none 0 0] 43)) w.heap.size o ∧ RowR (World.alloc (w.alloc (.cells #[.int .u8 o.kd, .int .i64 o.a, .int .i64 o.b, .int .i64 o.c, .int .u64 o.x, .int .u64 o.y] 32)) (.cells #[.int .i64 0, .int .i64 0, .int .i64 0, .int .u64 0, .bool false, .int .i64 0, .int .i64 0, .int .u32 0, .int .u64 0, .int .u64 0, .int .u64 0, .int .u64 0, .int .u64 0, .int .u64 0, .slice none 0 0] 43)) (w.heap.size + 1) #[.int .i64 0, .int .i64 0, .int .i64 0, .int .u64 0, .bool false, .int .i64 0, .int .i64 0, .int .u32 0, .int .u64 0, .int .u64 0, .int .u64 0, .int .u64 0, .int .u64 0, .int .u64 0, .slice none 0 0] ∧ MW D V V w (World.alloc (w.alloc (.cells #[.int .u8 o.kd, .int .i64 o.a, .int .i64 o.b, .int .i64 o.c, .int .u64 o.x, .int .u64 o.y] 32)) (.cells #[.int .i64 0, .int .i64 0, .int .i64 0, .int .u64 0, .bool false, .int .i64 0, .int .i64 0, .int .u32 0, .int .u64 0, .int .u64 0, .int .u64 0, .int .u64 0, .int .u64 0, .int .u64 0, .slice none 0 0] 43)) ∧ (Off V w.heap.size ∧ Off V (w.heap.size + 1)) ∧ base ≤ (World.alloc (w.alloc (.cells #[.int .u8 o.kd, .int .i64 o.a, .int .i64 o.b, .int .i64 o.c, .int .u64 o.x, .int .u64 o.y] 32)) (.cells #[.int .i64 0, .int .i64 0, .int .i64 0, .int .u64 0, .bool false, .int .i64 0, .int .i64 0, .int .u32 0, .int .u64 0, .int .u64 0, .int .u64 0, .int .u64 0, .int .u64 0, .int .u64 0, .slice none 0 0] 43)).heap.size := by
    have b1 := one_alloc w (.cells #[.int .u8 o.kd, .int .i64 o.a, .int .i64 o.b, .int .i64 o.c, .int .u64 o.x, .int .u64 o.y] 32)
    have b2 := one_alloc (w.alloc (.cells #[.int .u8 o.kd, .int .i64 o.a, .int .i64 o.b, .int .i64 o.c, .int .u64 o.x, .int .u64 o.y] 32)) (.cells #[.int .i64 0, .int .i64 0, .int .i64 0, .int .u64 0, .bool false, .int .i64 0, .int .i64 0, .int .u32 0, .int .u64 0, .int .u64 0, .int .u64 0, .int .u64 0, .int .u64 0, .int .u64 0, .slice none 0 0] 43)
    have bb := b1.trans (b2.mono b1.size)
    have hs : (w.alloc (.cells #[.int .u8 o.kd, .int .i64 o.a, .int .i64 o.b, .int .i64 o.c, .int .u64 o.x, .int .u64 o.y] 32)).heap.size = w.heap.size + 1 := by simp
    refine ⟨H.below bb, (op_new w o 32).blk (b2.block _ (by omega)), ?_, ((MFr.refl D V w).below bb).mw, ⟨H.off (Nat.le_refl _), H.off (by omega)⟩, Nat.le_trans hbw bb.size⟩
    rw [← hs]
    exact RowR.new _ _
  unfold opV
  go_enter Tryz.func21, Tryz.ntmps21
  go_upto_region 1 with fail
  generalize hW0 : World.alloc (w.alloc (.cells #[.int .u8 o.kd, .int .i64 o.a, .int .i64 o.b, .int .i64 o.c, .int .u64 o.x, .int .u64 o.y] 32)) (.cells #[.int .i64 0, .int .i64 0, .int .i64 0, .int .u64 0, .bool false, .int .i64 0, .int .i64 0, .int .u32 0, .int .u64 0, .int .u64 0, .int .u64 0, .int .u64 0, .int .u64 0, .int .u64 0, .slice none 0 0] 43) = wc at *
  clear hW0
  obtain ⟨H1, OP, R4, Mw, o45, hbs⟩ := hF
  have OP' := OP
  obtain ⟨g0, g1, g2, g3, g4, g5⟩ := OP'
  have hcall := mrearm_any (x := (o.x : Int)) (d := (o.y : Int)) H1 hbs (by have := K.tl; omega)
  go_wp2_with fail
  refine hcall.mono ?_
  rintro e w5 ⟨V5, z, co, tm, m5, rfl, hsp, H5, F5⟩
  have HS := hideIt hsp
  clear hsp
  have R5 := R4.blk (F5.keep o45.2 R4.lt n5D)
  have hs43 := R5.store rfl (cs := (resCs z co (-1) tm false msg0 none 0 0)) rfl (resCs_one _ _ _ _ _ _ _ _ _)
  have o5 := F5.off o45.2 R4.lt
  have HQ := hideIt (And.intro H5 F5)
  clear hcall H5 F5
  go_wp2_with (first | (refine wpList_store_row rfl (.tmp 4) (.tmp 71) 43 rfl ⟨(w.heap.size + 1), 0, none⟩ (.agg (resCs z co (-1) tm false msg0 none 0 0)) rfl rfl hs43 ?_) | go_in)
  refine bodyPost_ret (v := .agg (resCs z co (-1) tm false msg0 none 0 0)) (results_cell_row rfl _ _ (w.heap.size + 1) 43 _ (0, 0) _ rfl R5.row Tryz.underlying43 rfl sz43) rfl ⟨V5, ⟨z, co, -1, tm, false, msg0, []⟩, none, 0, 0, _, rfl, .inl ⟨rfl, rfl⟩, mods_k8 HK.out ⟨z, co, tm, rfl, HS.out⟩, HQ.out.1.otherRow n5D o5, ((Mw.then HQ.out.2).row (by omega)).fr⟩
set_option maxRecDepth 20000 in
set_option maxHeartbeats 8000000 in
theorem mstep_9 {w : World} {D base : Nat} {V : Nat → Value} {m : Mdl} {o : OpS} (H : MdlAt w D base V m) (hbw : base ≤ w.heap.size) (K : MOk m) (ho : o.ok) (hkd : o.kd = 9) :
    Calls Tryz.prog 21 #[.pointer (some ⟨D, 0, none⟩), opV o] w fun e w' => ∃ V' a p n c m', e = .returned (.agg (resCs a.z a.co a.tk a.tm a.hm a.mm p n c)) ∧ FrAt w' w.heap.size (.slice p n c) a.fs ∧ ModS m o a m' ∧ MdlAt w' D base V' m' ∧ MFr D V V' w w' := by
  have q0 : ((o.kd : Int) == 0) = false := beq_eq_false_iff_ne.2 (by omega)
  have q1 : ((o.kd : Int) == 1) = false := beq_eq_false_iff_ne.2 (by omega)
  have q2 : ((o.kd : Int) == 2) = false := beq_eq_false_iff_ne.2 (by omega)
  have q3 : ((o.kd : Int) == 3) = false := beq_eq_false_iff_ne.2 (by omega)
  have q4 : ((o.kd : Int) == 4) = false := beq_eq_false_iff_ne.2 (by omega)
  have q5 : ((o.kd : Int) == 5) = false := beq_eq_false_iff_ne.2 (by omega)
  have q6 : ((o.kd : Int) == 6) = false := beq_eq_false_iff_ne.2 (by omega)
  have q7 : ((o.kd : Int) == 7) = false := beq_eq_false_iff_ne.2 (by omega)
  have q8 : ((o.kd : Int) == 8) = false := beq_eq_false_iff_ne.2 (by omega)
  have q9 : ((o.kd : Int) == 9) = true := beq_iff_eq.2 (by omega)
  have HK := hideIt hkd
  clear hkd
  have hDl := H.dlt
  have n4D : w.heap.size ≠ D := by omega
  have n5D : (w.heap.size + 1) ≠ D := by omega
  have hF : MdlAt (World.alloc (w.alloc (.cells #[.int .u8 o.kd, .int .i64 o.a, .int .i64 o.b, .int .i64 o.c, .int .u64 o.x, .int .u64 o.y] 32)) (.cells #[.int .i64 0, .int .i64 0, .int .i64 0, .int .u64 0, .bool false, .int .i64 0, .int .i64 0, .int .u32 0, .int .u64 0, .int .u64 0, .int .u64 0, .int .u64 0, .int .u64 0, .int .u64 0, .slice none 0 0] 43)) D base V m ∧ OpAt (World.alloc (w.alloc (.cells #[.int .u8 o.kd, .int .i64 o.a, .int .i64 o.b, .int .i64 o.c, .int .u64 o.x, .int .u64 o.y] 32)) (.cells #[.int .i64 0, .int .i64 0, .int .i64 0, .int .u64 0, .bool false, .int .i64 0, .int .i64 0, .int .u32 0, .int .u64 0, .int .u64 0, .int .u64 0, .int .u64 0, .int .u64 0, .int .u64 0, .slice none 0 0] 43)) w.heap.size o ∧ RowR (World.alloc (w.alloc (.cells #[.int .u8 o.kd, .int .i64 o.a, .int .i64 o.b, .int .i64 o.c, .int .u64 o.x, .int .u64 o.y] 32)) (.cells #[.int .i64 0, .int .i64 0, .int .i64 0, .int .u64 0, .bool false, .int .i64 0, .int .i64 0, .int .u32 0, .int .u64 0, .int .u64 0, .int .u64 0, .int .u64 0, .int .u64 0, .int .u64 0, .slice none 0 0] 43)) (w.heap.size + 1) #[.int .i64 0, .int .i64 0, .int .i64 0, .int .u64 0, .bool false, .int .i64 0, .int .i64 0, .int .u32 0, .int .u64 0, .int .u64 0, .int .u64 0, .int .u64 0, .int .u64 0, .int .u64 0, .slice none 0 0] ∧ MW D V V w (World.alloc (w.alloc (.cells #[.int .u8 o.kd, .int .i64 o.a, .int .i64 o.b, .int .i64 o.c, .int .u64 o.x, .int .u64 o.y] 32)) (.cells #[.int .i64 0, .int .i64 0, .int .i64 0, .int .u64 0, .bool false, .int .i64 0, .int .i64 0, .int .u32 0, .int .u64 0, .int .u64 0, .int .u64 0, .int .u64 0, .int .u64 0, .int .u64 0, .slice none 0 0] 43)) ∧ (Off V w.heap.size ∧ Off V (w.heap.size + 1)) ∧ base ≤ (World.alloc (w.alloc (.cells #[.int .u8 o.kd, .int .i64 o.a, .int .i64 o.b, .int .i64 o.c, .int .u64 o.x, .int .u64 o.y] 32)) (.cells #[.int .i64 0, .int .i64 0, .int .i64 0, .int .u64 0, .bool false, .int .i64 0, .int .i64 0, .int .u32 0, .int .u64 0, .int .u64 0, .int .u64 0, .int .u64 0, .int .u64 0, .int .u64 0, .slice none 0 0] 43)).heap.size := by
    have b1 := one_alloc w (.cells #[.int .u8 o.kd, .int .i64 o.a, .int .i64 o.b, .int .i64 o.c, .int .u64 o.x, .int .u64 o.y] 32)
    have b2 := one_alloc (w.alloc (.cells #[.int .u8 o.kd, .int .i64 o.a, .int .i64 o.b, .int .i64 o.c, .int .u64 o.x, .int .u64 o.y] 32)) (.cells #[.int .i64 0, .int .i64 0, .int .i64 0, .int .u64 0, .bool false, .int .i64 0, .int .i64 0, .int .u32 0, .int .u64 0, .int .u64 0, .int .u64 0, .int .u64 0, .int .u64 0, .int .u64 0, .slice none 0 0] 43)
    have bb := b1.trans (b2.mono b1.size)
    have hs : (w.alloc (.cells #[.int .u8 o.kd, .int .i64 o.a, .int .i64 o.b, .int .i64 o.c, .int .u64 o.x, .int .u64 o.y] 32)).heap.size = w.heap.size + 1 := by simp
    refine ⟨H.below bb, (op_new w o 32).blk (b2.block _ (by omega)), ?_, ((MFr.refl D V w).below bb).mw, ⟨H.off (Nat.le_refl _), H.off (by omega)⟩, Nat.le_trans hbw bb.size⟩
    rw [← hs]
    exact RowR.new _ _
  unfold opV
  go_enter Tryz.func21, Tryz.ntmps21
  go_upto_region 1 with fail
  generalize hW0 : World.alloc (w.alloc (.cells #[.int .u8 o.kd, .int .i64 o.a, .int .i64 o.b, .int .i64 o.c, .int .u64 o.x, .int .u64 o.y] 32)) (.cells #[.int .i64 0, .int .i64 0, .int .i64 0, .int .u64 0, .bool false, .int .i64 0, .int .i64 0, .int .u32 0, .int .u64 0, .int .u64 0, .int .u64 0, .int .u64 0, .int .u64 0, .int .u64 0, .slice none 0 0] 43) = wc at *
  clear hW0
  obtain ⟨H1, OP, R4, Mw, o45, hbs⟩ := hF
  have OP' := OP
  obtain ⟨g0, g1, g2, g3, g4, g5⟩ := OP'
  have hcall := mcancel_any (x := (o.x : Int)) H1 hbs (by have := K.tl; omega) K.tc
  go_wp2_with fail
  refine hcall.mono ?_
  rintro e w5 ⟨V5, z, co, tm, m5, rfl, hsp, H5, F5⟩
  have HS := hideIt hsp
  clear hsp
  have R5 := R4.blk (F5.keep o45.2 R4.lt n5D)
  have hs43 := R5.store rfl (cs := (resCs z co (-1) tm false msg0 none 0 0)) rfl (resCs_one _ _ _ _ _ _ _ _ _)
  have o5 := F5.off o45.2 R4.lt
  have HQ := hideIt (And.intro H5 F5)
  clear hcall H5 F5
  go_wp2_with (first | (refine wpList_store_row rfl (.tmp 4) (.tmp 77) 43 rfl ⟨(w.heap.size + 1), 0, none⟩ (.agg (resCs z co (-1) tm false msg0 none 0 0)) rfl rfl hs43 ?_) | go_in)
  refine bodyPost_ret (v := .agg (resCs z co (-1) tm false msg0 none 0 0)) (results_cell_row rfl _ _ (w.heap.size + 1) 43 _ (0, 0) _ rfl R5.row Tryz.underlying43 rfl sz43) rfl ⟨V5, ⟨z, co, -1, tm, false, msg0, []⟩, none, 0, 0, _, rfl, .inl ⟨rfl, rfl⟩, mods_k9 HK.out ⟨z, co, tm, rfl, HS.out⟩, HQ.out.1.otherRow n5D o5, ((Mw.then HQ.out.2).row (by omega)).fr⟩
set_option maxRecDepth 20000 in
set_option maxHeartbeats 8000000 in
theorem mstep_10 {w : World} {D base : Nat} {V : Nat → Value} {m : Mdl} {o : OpS} (H : MdlAt w D base V m) (hbw : base ≤ w.heap.size) (K : MOk m) (ho : o.ok) (hkd : o.kd = 10) :
    Calls Tryz.prog 21 #[.pointer (some ⟨D, 0, none⟩), opV o] w fun e w' => ∃ V' a p n c m', e = .returned (.agg (resCs a.z a.co a.tk a.tm a.hm a.mm p n c)) ∧ FrAt w' w.heap.size (.slice p n c) a.fs ∧ ModS m o a m' ∧ MdlAt w' D base V' m' ∧ MFr D V V' w w' := by
  have q0 : ((o.kd : Int) == 0) = false := beq_eq_false_iff_ne.2 (by omega)
  have q1 : ((o.kd : Int) == 1) = false := beq_eq_false_iff_ne.2 (by omega)
  have q2 : ((o.kd : Int) == 2) = false := beq_eq_false_iff_ne.2 (by omega)
  have q3 : ((o.kd : Int) == 3) = false := beq_eq_false_iff_ne.2 (by omega)
  have q4 : ((o.kd : Int) == 4) = false := beq_eq_false_iff_ne.2 (by omega)
  have q5 : ((o.kd : Int) == 5) = false := beq_eq_false_iff_ne.2 (by omega)
  have q6 : ((o.kd : Int) == 6) = false := beq_eq_false_iff_ne.2 (by omega)
  have q7 : ((o.kd : Int) == 7) = false := beq_eq_false_iff_ne.2 (by omega)
  have q8 : ((o.kd : Int) == 8) = false := beq_eq_false_iff_ne.2 (by omega)
  have q9 : ((o.kd : Int) == 9) = false := beq_eq_false_iff_ne.2 (by omega)
  have q10 : ((o.kd : Int) == 10) = true := beq_iff_eq.2 (by omega)
  have HK := hideIt hkd
  clear hkd
  have hDl := H.dlt
  have n4D : w.heap.size ≠ D := by omega
  have n5D : (w.heap.size + 1) ≠ D := by omega
  have hF : MdlAt (World.alloc (w.alloc (.cells #[.int .u8 o.kd, .int .i64 o.a, .int .i64 o.b, .int .i64 o.c, .int .u64 o.x, .int .u64 o.y] 32)) (.cells #[.int .i64 0, .int .i64 0, .int .i64 0, .int .u64 0, .bool false, .int .i64 0, .int .i64 0, .int .u32 0, .int .u64 0, .int .u64 0, .int .u64 0, .int .u64 0, .int .u64 0, .int .u64 0, .slice none 0 0] 43)) D base V m ∧ OpAt (World.alloc (w.alloc (.cells #[.int .u8 o.kd, .int .i64 o.a, .int .i64 o.b, .int .i64 o.c, .int .u64 o.x, .int .u64 o.y] 32)) (.cells #[.int .i64 0, .int .i64 0, .int .i64 0, .int .u64 0, .bool false, .int .i64 0, .int .i64 0, .int .u32 0, .int .u64 0, .int .u64 0, .int .u64 0, .int .u64 0, .int .u64 0, .int .u64 0, .slice none 0 0] 43)) w.heap.size o ∧ RowR (World.alloc (w.alloc (.cells #[.int .u8 o.kd, .int .i64 o.a, .int .i64 o.b, .int .i64 o.c, .int .u64 o.x, .int .u64 o.y] 32)) (.cells #[.int .i64 0, .int .i64 0, .int .i64 0, .int .u64 0, .bool false, .int .i64 0, .int .i64 0, .int .u32 0, .int .u64 0, .int .u64 0, .int .u64 0, .int .u64 0, .int .u64 0, .int .u64 0, .slice none 0 0] 43)) (w.heap.size + 1) #[.int .i64 0, .int .i64 0, .int .i64 0, .int .u64 0, .bool false, .int .i64 0, .int .i64 0, .int .u32 0, .int .u64 0, .int .u64 0, .int .u64 0, .int .u64 0, .int .u64 0, .int .u64 0, .slice none 0 0] ∧ MW D V V w (World.alloc (w.alloc (.cells #[.int .u8 o.kd, .int .i64 o.a, .int .i64 o.b, .int .i64 o.c, .int .u64 o.x, .int .u64 o.y] 32)) (.cells #[.int .i64 0, .int .i64 0, .int .i64 0, .int .u64 0, .bool false, .int .i64 0, .int .i64 0, .int .u32 0, .int .u64 0, .int .u64 0, .int .u64 0, .int .u64 0, .int .u64 0, .int .u64 0, .slice none 0 0] 43)) ∧ (Off V w.heap.size ∧ Off V (w.heap.size + 1)) ∧ base ≤ (World.alloc (w.alloc (.cells #[.int .u8 o.kd, .int .i64 o.a, .int .i64 o.b, .int .i64 o.c, .int .u64 o.x, .int .u64 o.y] 32)) (.cells #[.int .i64 0, .int .i64 0, .int .i64 0, .int .u64 0, .bool false, .int .i64 0, .int .i64 0, .int .u32 0, .int .u64 0, .int .u64 0, .int .u64 0, .int .u64 0, .int .u64 0, .int .u64 0, .slice none 0 0] 43)).heap.size := by
    have b1 := one_alloc w (.cells #[.int .u8 o.kd, .int .i64 o.a, .int .i64 o.b, .int .i64 o.c, .int .u64 o.x, .int .u64 o.y] 32)
    have b2 := one_alloc (w.alloc (.cells #[.int .u8 o.kd, .int .i64 o.a, .int .i64 o.b, .int .i64 o.c, .int .u64 o.x, .int .u64 o.y] 32)) (.cells #[.int .i64 0, .int .i64 0, .int .i64 0, .int .u64 0, .bool false, .int .i64 0, .int .i64 0, .int .u32 0, .int .u64 0, .int .u64 0, .int .u64 0, .int .u64 0, .int .u64 0, .int .u64 0, .slice none 0 0] 43)
    have bb := b1.trans (b2.mono b1.size)
    have hs : (w.alloc (.cells #[.int .u8 o.kd, .int .i64 o.a, .int .i64 o.b, .int .i64 o.c, .int .u64 o.x, .int .u64 o.y] 32)).heap.size = w.heap.size + 1 := by simp
    refine ⟨H.below bb, (op_new w o 32).blk (b2.block _ (by omega)), ?_, ((MFr.refl D V w).below bb).mw, ⟨H.off (Nat.le_refl _), H.off (by omega)⟩, Nat.le_trans hbw bb.size⟩
    rw [← hs]
    exact RowR.new _ _
  unfold opV
  go_enter Tryz.func21, Tryz.ntmps21
  go_upto_region 1 with fail
  generalize hW0 : World.alloc (w.alloc (.cells #[.int .u8 o.kd, .int .i64 o.a, .int .i64 o.b, .int .i64 o.c, .int .u64 o.x, .int .u64 o.y] 32)) (.cells #[.int .i64 0, .int .i64 0, .int .i64 0, .int .u64 0, .bool false, .int .i64 0, .int .i64 0, .int .u32 0, .int .u64 0, .int .u64 0, .int .u64 0, .int .u64 0, .int .u64 0, .int .u64 0, .slice none 0 0] 43) = wc at *
  clear hW0
  obtain ⟨H1, OP, R4, Mw, o45, hbs⟩ := hF
  have OP' := OP
  obtain ⟨g0, g1, g2, g3, g4, g5⟩ := OP'
  have hcall := mattach_any (o := o) H1 hbs
  unfold opV at hcall
  go_wp2_with fail
  refine hcall.mono ?_
  rintro e w5 ⟨z, co, tk, m5, rfl, hsp, H5, F5⟩
  have HS := hideIt hsp
  clear hsp
  have R5 := R4.blk (F5.keep o45.2 R4.lt n5D)
  have hs43 := R5.store rfl (cs := (resCs z co tk 0 false msg0 none 0 0)) rfl (resCs_one _ _ _ _ _ _ _ _ _)
  have o5 := F5.off o45.2 R4.lt
  have HQ := hideIt (And.intro H5 F5)
  clear hcall H5 F5
  go_wp2_with (first | (refine wpList_store_row rfl (.tmp 4) (.tmp 82) 43 rfl ⟨(w.heap.size + 1), 0, none⟩ (.agg (resCs z co tk 0 false msg0 none 0 0)) rfl rfl hs43 ?_) | go_in)
  refine bodyPost_ret (v := .agg (resCs z co tk 0 false msg0 none 0 0)) (results_cell_row rfl _ _ (w.heap.size + 1) 43 _ (0, 0) _ rfl R5.row Tryz.underlying43 rfl sz43) rfl ⟨V, ⟨z, co, tk, 0, false, msg0, []⟩, none, 0, 0, _, rfl, .inl ⟨rfl, rfl⟩, mods_k10 HK.out ⟨z, co, tk, rfl, HS.out⟩, HQ.out.1.otherRow n5D o5, ((Mw.then HQ.out.2).row (by omega)).fr⟩
set_option maxRecDepth 20000 in
set_option maxHeartbeats 8000000 in
theorem mstep_11 {w : World} {D base : Nat} {V : Nat → Value} {m : Mdl} {o : OpS} (H : MdlAt w D base V m) (hbw : base ≤ w.heap.size) (K : MOk m) (ho : o.ok) (hkd : o.kd = 11) :
    Calls Tryz.prog 21 #[.pointer (some ⟨D, 0, none⟩), opV o] w fun e w' => ∃ V' a p n c m', e = .returned (.agg (resCs a.z a.co a.tk a.tm a.hm a.mm p n c)) ∧ FrAt w' w.heap.size (.slice p n c) a.fs ∧ ModS m o a m' ∧ MdlAt w' D base V' m' ∧ MFr D V V' w w' := by
  have q0 : ((o.kd : Int) == 0) = false := beq_eq_false_iff_ne.2 (by omega)
  have q1 : ((o.kd : Int) == 1) = false := beq_eq_false_iff_ne.2 (by omega)
  have q2 : ((o.kd : Int) == 2) = false := beq_eq_false_iff_ne.2 (by omega)
  have q3 : ((o.kd : Int) == 3) = false := beq_eq_false_iff_ne.2 (by omega)
  have q4 : ((o.kd : Int) == 4) = false := beq_eq_false_iff_ne.2 (by omega)
  have q5 : ((o.kd : Int) == 5) = false := beq_eq_false_iff_ne.2 (by omega)
  have q6 : ((o.kd : Int) == 6) = false := beq_eq_false_iff_ne.2 (by omega)
  have q7 : ((o.kd : Int) == 7) = false := beq_eq_false_iff_ne.2 (by omega)
  have q8 : ((o.kd : Int) == 8) = false := beq_eq_false_iff_ne.2 (by omega)
  have q9 : ((o.kd : Int) == 9) = false := beq_eq_false_iff_ne.2 (by omega)
  have q10 : ((o.kd : Int) == 10) = false := beq_eq_false_iff_ne.2 (by omega)
  have q11 : ((o.kd : Int) == 11) = true := beq_iff_eq.2 (by omega)
  have HK := hideIt hkd
  clear hkd
  have hDl := H.dlt
  have n4D : w.heap.size ≠ D := by omega
  have n5D : (w.heap.size + 1) ≠ D := by omega
  have hF : MdlAt (World.alloc (w.alloc (.cells #[.int .u8 o.kd, .int .i64 o.a, .int .i64 o.b, .int .i64 o.c, .int .u64 o.x, .int .u64 o.y] 32)) (.cells #[.int .i64 0, .int .i64 0, .int .i64 0, .int .u64 0, .bool false, .int .i64 0, .int .i64 0, .int .u32 0, .int .u64 0, .int .u64 0, .int .u64 0, .int .u64 0, .int .u64 0, .int .u64 0, .slice none 0 0] 43)) D base V m ∧ OpAt (World.alloc (w.alloc (.cells #[.int .u8 o.kd, .int .i64 o.a, .int .i64 o.b, .int .i64 o.c, .int .u64 o.x, .int .u64 o.y] 32)) (.cells #[.int .i64 0, .int .i64 0, .int .i64 0, .int .u64 0, .bool false, .int .i64 0, .int .i64 0, .int .u32 0, .int .u64 0, .int .u64 0, .int .u64 0, .int .u64 0, .int .u64 0, .int .u64 0, .slice none 0 0] 43)) w.heap.size o ∧ RowR (World.alloc (w.alloc (.cells #[.int .u8 o.kd, .int .i64 o.a, .int .i64 o.b, .int .i64 o.c, .int .u64 o.x, .int .u64 o.y] 32)) (.cells #[.int .i64 0, .int .i64 0, .int .i64 0, .int .u64 0, .bool false, .int .i64 0, .int .i64 0, .int .u32 0, .int .u64 0, .int .u64 0, .int .u64 0, .int .u64 0, .int .u64 0, .int .u64 0, .slice none 0 0] 43)) (w.heap.size + 1) #[.int .i64 0, .int .i64 0, .int .i64 0, .int .u64 0, .bool false, .int .i64 0, .int .i64 0, .int .u32 0, .int .u64 0, .int .u64 0, .int .u64 0, .int .u64 0, .int .u64 0, .int .u64 0, .slice none 0 0] ∧ MW D V V w (World.alloc (w.alloc (.cells #[.int .u8 o.kd, .int .i64 o.a, .int .i64 o.b, .int .i64 o.c, .int .u64 o.x, .int .u64 o.y] 32)) (.cells #[.int .i64 0, .int .i64 0, .int .i64 0, .int .u64 0, .bool false, .int .i64 0, .int .i64 0, .int .u32 0, .int .u64 0, .int .u64 0, .int .u64 0, .int .u64 0, .int .u64 0, .int .u64 0, .slice none 0 0] 43)) ∧ (Off V w.heap.size ∧ Off V (w.heap.size + 1)) ∧ base ≤ (World.alloc (w.alloc (.cells #[.int .u8 o.kd, .int .i64 o.a, .int .i64 o.b, .int .i64 o.c, .int .u64 o.x, .int .u64 o.y] 32)) (.cells #[.int .i64 0, .int .i64 0, .int .i64 0, .int .u64 0, .bool false, .int .i64 0, .int .i64 0, .int .u32 0, .int .u64 0, .int .u64 0, .int .u64 0, .int .u64 0, .int .u64 0, .int .u64 0, .slice none 0 0] 43)).heap.size := by
    have b1 := one_alloc w (.cells #[.int .u8 o.kd, .int .i64 o.a, .int .i64 o.b, .int .i64 o.c, .int .u64 o.x, .int .u64 o.y] 32)
    have b2 := one_alloc (w.alloc (.cells #[.int .u8 o.kd, .int .i64 o.a, .int .i64 o.b, .int .i64 o.c, .int .u64 o.x, .int .u64 o.y] 32)) (.cells #[.int .i64 0, .int .i64 0, .int .i64 0, .int .u64 0, .bool false, .int .i64 0, .int .i64 0, .int .u32 0, .int .u64 0, .int .u64 0, .int .u64 0, .int .u64 0, .int .u64 0, .int .u64 0, .slice none 0 0] 43)
    have bb := b1.trans (b2.mono b1.size)
    have hs : (w.alloc (.cells #[.int .u8 o.kd, .int .i64 o.a, .int .i64 o.b, .int .i64 o.c, .int .u64 o.x, .int .u64 o.y] 32)).heap.size = w.heap.size + 1 := by simp
    refine ⟨H.below bb, (op_new w o 32).blk (b2.block _ (by omega)), ?_, ((MFr.refl D V w).below bb).mw, ⟨H.off (Nat.le_refl _), H.off (by omega)⟩, Nat.le_trans hbw bb.size⟩
    rw [← hs]
    exact RowR.new _ _
  unfold opV
  go_enter Tryz.func21, Tryz.ntmps21
  go_upto_region 1 with fail
  generalize hW0 : World.alloc (w.alloc (.cells #[.int .u8 o.kd, .int .i64 o.a, .int .i64 o.b, .int .i64 o.c, .int .u64 o.x, .int .u64 o.y] 32)) (.cells #[.int .i64 0, .int .i64 0, .int .i64 0, .int .u64 0, .bool false, .int .i64 0, .int .i64 0, .int .u32 0, .int .u64 0, .int .u64 0, .int .u64 0, .int .u64 0, .int .u64 0, .int .u64 0, .slice none 0 0] 43) = wc at *
  clear hW0
  obtain ⟨H1, OP, R4, Mw, o45, hbs⟩ := hF
  have OP' := OP
  obtain ⟨g0, g1, g2, g3, g4, g5⟩ := OP'
  have hcall := mtask_any (o := o) H1 hbs K.wl K.hh (by have := HK.out; omega)
  unfold opV at hcall
  go_wp2_with fail
  refine hcall.mono ?_
  rintro e w5 ⟨V5, z, co, tk, m5, rfl, hsp, H5, F5⟩
  have HS := hideIt hsp
  clear hsp
  have R5 := R4.blk (F5.keep o45.2 R4.lt n5D)
  have hs43 := R5.store rfl (cs := (resCs z co tk 0 false msg0 none 0 0)) rfl (resCs_one _ _ _ _ _ _ _ _ _)
  have o5 := F5.off o45.2 R4.lt
  have HQ := hideIt (And.intro H5 F5)
  clear hcall H5 F5
  go_wp2_with (first | (refine wpList_store_row rfl (.tmp 4) (.tmp 92) 43 rfl ⟨(w.heap.size + 1), 0, none⟩ (.agg (resCs z co tk 0 false msg0 none 0 0)) rfl rfl hs43 ?_) | go_in)
  refine bodyPost_ret (v := .agg (resCs z co tk 0 false msg0 none 0 0)) (results_cell_row rfl _ _ (w.heap.size + 1) 43 _ (0, 0) _ rfl R5.row Tryz.underlying43 rfl sz43) rfl ⟨V5, ⟨z, co, tk, 0, false, msg0, []⟩, none, 0, 0, _, rfl, .inl ⟨rfl, rfl⟩, mods_k11 (by have := HK.out; omega) ⟨z, co, tk, rfl, HS.out⟩, HQ.out.1.otherRow n5D o5, ((Mw.then HQ.out.2).row (by omega)).fr⟩
set_option maxRecDepth 20000 in
set_option maxHeartbeats 8000000 in
theorem mstep_12 {w : World} {D base : Nat} {V : Nat → Value} {m : Mdl} {o : OpS} (H : MdlAt w D base V m) (hbw : base ≤ w.heap.size) (K : MOk m) (ho : o.ok) (hkd : o.kd = 12) :
    Calls Tryz.prog 21 #[.pointer (some ⟨D, 0, none⟩), opV o] w fun e w' => ∃ V' a p n c m', e = .returned (.agg (resCs a.z a.co a.tk a.tm a.hm a.mm p n c)) ∧ FrAt w' w.heap.size (.slice p n c) a.fs ∧ ModS m o a m' ∧ MdlAt w' D base V' m' ∧ MFr D V V' w w' := by
  have q0 : ((o.kd : Int) == 0) = false := beq_eq_false_iff_ne.2 (by omega)
  have q1 : ((o.kd : Int) == 1) = false := beq_eq_false_iff_ne.2 (by omega)
  have q2 : ((o.kd : Int) == 2) = false := beq_eq_false_iff_ne.2 (by omega)
  have q3 : ((o.kd : Int) == 3) = false := beq_eq_false_iff_ne.2 (by omega)
  have q4 : ((o.kd : Int) == 4) = false := beq_eq_false_iff_ne.2 (by omega)
  have q5 : ((o.kd : Int) == 5) = false := beq_eq_false_iff_ne.2 (by omega)
  have q6 : ((o.kd : Int) == 6) = false := beq_eq_false_iff_ne.2 (by omega)
  have q7 : ((o.kd : Int) == 7) = false := beq_eq_false_iff_ne.2 (by omega)
  have q8 : ((o.kd : Int) == 8) = false := beq_eq_false_iff_ne.2 (by omega)
  have q9 : ((o.kd : Int) == 9) = false := beq_eq_false_iff_ne.2 (by omega)
  have q10 : ((o.kd : Int) == 10) = false := beq_eq_false_iff_ne.2 (by omega)
  have q11 : ((o.kd : Int) == 11) = false := beq_eq_false_iff_ne.2 (by omega)
  have q12 : ((o.kd : Int) == 12) = true := beq_iff_eq.2 (by omega)
  have HK := hideIt hkd
  clear hkd
  have hDl := H.dlt
  have n4D : w.heap.size ≠ D := by omega
  have n5D : (w.heap.size + 1) ≠ D := by omega
  have hF : MdlAt (World.alloc (w.alloc (.cells #[.int .u8 o.kd, .int .i64 o.a, .int .i64 o.b, .int .i64 o.c, .int .u64 o.x, .int .u64 o.y] 32)) (.cells #[.int .i64 0, .int .i64 0, .int .i64 0, .int .u64 0, .bool false, .int .i64 0, .int .i64 0, .int .u32 0, .int .u64 0, .int .u64 0, .int .u64 0, .int .u64 0, .int .u64 0, .int .u64 0, .slice none 0 0] 43)) D base V m ∧ OpAt (World.alloc (w.alloc (.cells #[.int .u8 o.kd, .int .i64 o.a, .int .i64 o.b, .int .i64 o.c, .int .u64 o.x, .int .u64 o.y] 32)) (.cells #[.int .i64 0, .int .i64 0, .int .i64 0, .int .u64 0, .bool false, .int .i64 0, .int .i64 0, .int .u32 0, .int .u64 0, .int .u64 0, .int .u64 0, .int .u64 0, .int .u64 0, .int .u64 0, .slice none 0 0] 43)) w.heap.size o ∧ RowR (World.alloc (w.alloc (.cells #[.int .u8 o.kd, .int .i64 o.a, .int .i64 o.b, .int .i64 o.c, .int .u64 o.x, .int .u64 o.y] 32)) (.cells #[.int .i64 0, .int .i64 0, .int .i64 0, .int .u64 0, .bool false, .int .i64 0, .int .i64 0, .int .u32 0, .int .u64 0, .int .u64 0, .int .u64 0, .int .u64 0, .int .u64 0, .int .u64 0, .slice none 0 0] 43)) (w.heap.size + 1) #[.int .i64 0, .int .i64 0, .int .i64 0, .int .u64 0, .bool false, .int .i64 0, .int .i64 0, .int .u32 0, .int .u64 0, .int .u64 0, .int .u64 0, .int .u64 0, .int .u64 0, .int .u64 0, .slice none 0 0] ∧ MW D V V w (World.alloc (w.alloc (.cells #[.int .u8 o.kd, .int .i64 o.a, .int .i64 o.b, .int .i64 o.c, .int .u64 o.x, .int .u64 o.y] 32)) (.cells #[.int .i64 0, .int .i64 0, .int .i64 0, .int .u64 0, .bool false, .int .i64 0, .int .i64 0, .int .u32 0, .int .u64 0, .int .u64 0, .int .u64 0, .int .u64 0, .int .u64 0, .int .u64 0, .slice none 0 0] 43)) ∧ (Off V w.heap.size ∧ Off V (w.heap.size + 1)) ∧ base ≤ (World.alloc (w.alloc (.cells #[.int .u8 o.kd, .int .i64 o.a, .int .i64 o.b, .int .i64 o.c, .int .u64 o.x, .int .u64 o.y] 32)) (.cells #[.int .i64 0, .int .i64 0, .int .i64 0, .int .u64 0, .bool false, .int .i64 0, .int .i64 0, .int .u32 0, .int .u64 0, .int .u64 0, .int .u64 0, .int .u64 0, .int .u64 0, .int .u64 0, .slice none 0 0] 43)).heap.size := by
    have b1 := one_alloc w (.cells #[.int .u8 o.kd, .int .i64 o.a, .int .i64 o.b, .int .i64 o.c, .int .u64 o.x, .int .u64 o.y] 32)
    have b2 := one_alloc (w.alloc (.cells #[.int .u8 o.kd, .int .i64 o.a, .int .i64 o.b, .int .i64 o.c, .int .u64 o.x, .int .u64 o.y] 32)) (.cells #[.int .i64 0, .int .i64 0, .int .i64 0, .int .u64 0, .bool false, .int .i64 0, .int .i64 0, .int .u32 0, .int .u64 0, .int .u64 0, .int .u64 0, .int .u64 0, .int .u64 0, .int .u64 0, .slice none 0 0] 43)
    have bb := b1.trans (b2.mono b1.size)
    have hs : (w.alloc (.cells #[.int .u8 o.kd, .int .i64 o.a, .int .i64 o.b, .int .i64 o.c, .int .u64 o.x, .int .u64 o.y] 32)).heap.size = w.heap.size + 1 := by simp
    refine ⟨H.below bb, (op_new w o 32).blk (b2.block _ (by omega)), ?_, ((MFr.refl D V w).below bb).mw, ⟨H.off (Nat.le_refl _), H.off (by omega)⟩, Nat.le_trans hbw bb.size⟩
    rw [← hs]
    exact RowR.new _ _
  unfold opV
  go_enter Tryz.func21, Tryz.ntmps21
  go_upto_region 1 with fail
  generalize hW0 : World.alloc (w.alloc (.cells #[.int .u8 o.kd, .int .i64 o.a, .int .i64 o.b, .int .i64 o.c, .int .u64 o.x, .int .u64 o.y] 32)) (.cells #[.int .i64 0, .int .i64 0, .int .i64 0, .int .u64 0, .bool false, .int .i64 0, .int .i64 0, .int .u32 0, .int .u64 0, .int .u64 0, .int .u64 0, .int .u64 0, .int .u64 0, .int .u64 0, .slice none 0 0] 43) = wc at *
  clear hW0
  obtain ⟨H1, OP, R4, Mw, o45, hbs⟩ := hF
  have OP' := OP
  obtain ⟨g0, g1, g2, g3, g4, g5⟩ := OP'
  have hcall := mtask_any (o := o) H1 hbs K.wl K.hh (by have := HK.out; omega)
  unfold opV at hcall
  go_wp2_with fail
  refine hcall.mono ?_
  rintro e w5 ⟨V5, z, co, tk, m5, rfl, hsp, H5, F5⟩
  have HS := hideIt hsp
  clear hsp
  have R5 := R4.blk (F5.keep o45.2 R4.lt n5D)
  have hs43 := R5.store rfl (cs := (resCs z co tk 0 false msg0 none 0 0)) rfl (resCs_one _ _ _ _ _ _ _ _ _)
  have o5 := F5.off o45.2 R4.lt
  have HQ := hideIt (And.intro H5 F5)
  clear hcall H5 F5
  go_wp2_with (first | (refine wpList_store_row rfl (.tmp 4) (.tmp 92) 43 rfl ⟨(w.heap.size + 1), 0, none⟩ (.agg (resCs z co tk 0 false msg0 none 0 0)) rfl rfl hs43 ?_) | go_in)
  refine bodyPost_ret (v := .agg (resCs z co tk 0 false msg0 none 0 0)) (results_cell_row rfl _ _ (w.heap.size + 1) 43 _ (0, 0) _ rfl R5.row Tryz.underlying43 rfl sz43) rfl ⟨V5, ⟨z, co, tk, 0, false, msg0, []⟩, none, 0, 0, _, rfl, .inl ⟨rfl, rfl⟩, mods_k11 (by have := HK.out; omega) ⟨z, co, tk, rfl, HS.out⟩, HQ.out.1.otherRow n5D o5, ((Mw.then HQ.out.2).row (by omega)).fr⟩
set_option maxRecDepth 20000 in
set_option maxHeartbeats 8000000 in
theorem mstep_13 {w : World} {D base : Nat} {V : Nat → Value} {m : Mdl} {o : OpS} (H : MdlAt w D base V m) (hbw : base ≤ w.heap.size) (K : MOk m) (ho : o.ok) (hkd : o.kd = 13) :
    Calls Tryz.prog 21 #[.pointer (some ⟨D, 0, none⟩), opV o] w fun e w' => ∃ V' a p n c m', e = .returned (.agg (resCs a.z a.co a.tk a.tm a.hm a.mm p n c)) ∧ FrAt w' w.heap.size (.slice p n c) a.fs ∧ ModS m o a m' ∧ MdlAt w' D base V' m' ∧ MFr D V V' w w' := by
  have q0 : ((o.kd : Int) == 0) = false := beq_eq_false_iff_ne.2 (by omega)
  have q1 : ((o.kd : Int) == 1) = false := beq_eq_false_iff_ne.2 (by omega)
  have q2 : ((o.kd : Int) == 2) = false := beq_eq_false_iff_ne.2 (by omega)
  have q3 : ((o.kd : Int) == 3) = false := beq_eq_false_iff_ne.2 (by omega)
  have q4 : ((o.kd : Int) == 4) = false := beq_eq_false_iff_ne.2 (by omega)
  have q5 : ((o.kd : Int) == 5) = false := beq_eq_false_iff_ne.2 (by omega)
  have q6 : ((o.kd : Int) == 6) = false := beq_eq_false_iff_ne.2 (by omega)
  have q7 : ((o.kd : Int) == 7) = false := beq_eq_false_iff_ne.2 (by omega)
  have q8 : ((o.kd : Int) == 8) = false := beq_eq_false_iff_ne.2 (by omega)
  have q9 : ((o.kd : Int) == 9) = false := beq_eq_false_iff_ne.2 (by omega)
  have q10 : ((o.kd : Int) == 10) = false := beq_eq_false_iff_ne.2 (by omega)
  have q11 : ((o.kd : Int) == 11) = false := beq_eq_false_iff_ne.2 (by omega)
  have q12 : ((o.kd : Int) == 12) = false := beq_eq_false_iff_ne.2 (by omega)
  have q13 : ((o.kd : Int) == 13) = true := beq_iff_eq.2 (by omega)
  have HK := hideIt hkd
  clear hkd
  have hDl := H.dlt
  have n4D : w.heap.size ≠ D := by omega
  have n5D : (w.heap.size + 1) ≠ D := by omega
  have hF : MdlAt (World.alloc (w.alloc (.cells #[.int .u8 o.kd, .int .i64 o.a, .int .i64 o.b, .int .i64 o.c, .int .u64 o.x, .int .u64 o.y] 32)) (.cells #[.int .i64 0, .int .i64 0, .int .i64 0, .int .u64 0, .bool false, .int .i64 0, .int .i64 0, .int .u32 0, .int .u64 0, .int .u64 0, .int .u64 0, .int .u64 0, .int .u64 0, .int .u64 0, .slice none 0 0] 43)) D base V m ∧ OpAt (World.alloc (w.alloc (.cells #[.int .u8 o.kd, .int .i64 o.a, .int .i64 o.b, .int .i64 o.c, .int .u64 o.x, .int .u64 o.y] 32)) (.cells #[.int .i64 0, .int .i64 0, .int .i64 0, .int .u64 0, .bool false, .int .i64 0, .int .i64 0, .int .u32 0, .int .u64 0, .int .u64 0, .int .u64 0, .int .u64 0, .int .u64 0, .int .u64 0, .slice none 0 0] 43)) w.heap.size o ∧ RowR (World.alloc (w.alloc (.cells #[.int .u8 o.kd, .int .i64 o.a, .int .i64 o.b, .int .i64 o.c, .int .u64 o.x, .int .u64 o.y] 32)) (.cells #[.int .i64 0, .int .i64 0, .int .i64 0, .int .u64 0, .bool false, .int .i64 0, .int .i64 0, .int .u32 0, .int .u64 0, .int .u64 0, .int .u64 0, .int .u64 0, .int .u64 0, .int .u64 0, .slice none 0 0] 43)) (w.heap.size + 1) #[.int .i64 0, .int .i64 0, .int .i64 0, .int .u64 0, .bool false, .int .i64 0, .int .i64 0, .int .u32 0, .int .u64 0, .int .u64 0, .int .u64 0, .int .u64 0, .int .u64 0, .int .u64 0, .slice none 0 0] ∧ MW D V V w (World.alloc (w.alloc (.cells #[.int .u8 o.kd, .int .i64 o.a, .int .i64 o.b, .int .i64 o.c, .int .u64 o.x, .int .u64 o.y] 32)) (.cells #[.int .i64 0, .int .i64 0, .int .i64 0, .int .u64 0, .bool false, .int .i64 0, .int .i64 0, .int .u32 0, .int .u64 0, .int .u64 0, .int .u64 0, .int .u64 0, .int .u64 0, .int .u64 0, .slice none 0 0] 43)) ∧ (Off V w.heap.size ∧ Off V (w.heap.size + 1)) ∧ base ≤ (World.alloc (w.alloc (.cells #[.int .u8 o.kd, .int .i64 o.a, .int .i64 o.b, .int .i64 o.c, .int .u64 o.x, .int .u64 o.y] 32)) (.cells #[.int .i64 0, .int .i64 0, .int .i64 0, .int .u64 0, .bool false, .int .i64 0, .int .i64 0, .int .u32 0, .int .u64 0, .int .u64 0, .int .u64 0, .int .u64 0, .int .u64 0, .int .u64 0, .slice none 0 0] 43)).heap.size := by
    have b1 := one_alloc w (.cells #[.int .u8 o.kd, .int .i64 o.a, .int .i64 o.b, .int .i64 o.c, .int .u64 o.x, .int .u64 o.y] 32)
    have b2 := one_alloc (w.alloc (.cells #[.int .u8 o.kd, .int .i64 o.a, .int .i64 o.b, .int .i64 o.c, .int .u64 o.x, .int .u64 o.y] 32)) (.cells #[.int .i64 0, .int .i64 0, .int .i64 0, .int .u64 0, .bool false, .int .i64 0, .int .i64 0, .int .u32 0, .int .u64 0, .int .u64 0, .int .u64 0, .int .u64 0, .int .u64 0, .int .u64 0, .slice none 0 0] 43)
    have bb := b1.trans (b2.mono b1.size)
    have hs : (w.alloc (.cells #[.int .u8 o.kd, .int .i64 o.a, .int .i64 o.b, .int .i64 o.c, .int .u64 o.x, .int .u64 o.y] 32)).heap.size = w.heap.size + 1 := by simp
    refine ⟨H.below bb, (op_new w o 32).blk (b2.block _ (by omega)), ?_, ((MFr.refl D V w).below bb).mw, ⟨H.off (Nat.le_refl _), H.off (by omega)⟩, Nat.le_trans hbw bb.size⟩
    rw [← hs]
    exact RowR.new _ _
  unfold opV
  go_enter Tryz.func21, Tryz.ntmps21
  go_upto_region 1 with fail
  generalize hW0 : World.alloc (w.alloc (.cells #[.int .u8 o.kd, .int .i64 o.a, .int .i64 o.b, .int .i64 o.c, .int .u64 o.x, .int .u64 o.y] 32)) (.cells #[.int .i64 0, .int .i64 0, .int .i64 0, .int .u64 0, .bool false, .int .i64 0, .int .i64 0, .int .u32 0, .int .u64 0, .int .u64 0, .int .u64 0, .int .u64 0, .int .u64 0, .int .u64 0, .slice none 0 0] 43) = wc at *
  clear hW0
  obtain ⟨H1, OP, R4, Mw, o45, hbs⟩ := hF
  have OP' := OP
  obtain ⟨g0, g1, g2, g3, g4, g5⟩ := OP'
  have hcall := mtask_any (o := o) H1 hbs K.wl K.hh (by have := HK.out; omega)
  unfold opV at hcall
  go_wp2_with fail
  refine hcall.mono ?_
  rintro e w5 ⟨V5, z, co, tk, m5, rfl, hsp, H5, F5⟩
  have HS := hideIt hsp
  clear hsp
  have R5 := R4.blk (F5.keep o45.2 R4.lt n5D)
  have hs43 := R5.store rfl (cs := (resCs z co tk 0 false msg0 none 0 0)) rfl (resCs_one _ _ _ _ _ _ _ _ _)
  have o5 := F5.off o45.2 R4.lt
  have HQ := hideIt (And.intro H5 F5)
  clear hcall H5 F5
  go_wp2_with (first | (refine wpList_store_row rfl (.tmp 4) (.tmp 92) 43 rfl ⟨(w.heap.size + 1), 0, none⟩ (.agg (resCs z co tk 0 false msg0 none 0 0)) rfl rfl hs43 ?_) | go_in)
  refine bodyPost_ret (v := .agg (resCs z co tk 0 false msg0 none 0 0)) (results_cell_row rfl _ _ (w.heap.size + 1) 43 _ (0, 0) _ rfl R5.row Tryz.underlying43 rfl sz43) rfl ⟨V5, ⟨z, co, tk, 0, false, msg0, []⟩, none, 0, 0, _, rfl, .inl ⟨rfl, rfl⟩, mods_k11 (by have := HK.out; omega) ⟨z, co, tk, rfl, HS.out⟩, HQ.out.1.otherRow n5D o5, ((Mw.then HQ.out.2).row (by omega)).fr⟩
end Go.Proofs.Qxb6500877aGreatDoor
