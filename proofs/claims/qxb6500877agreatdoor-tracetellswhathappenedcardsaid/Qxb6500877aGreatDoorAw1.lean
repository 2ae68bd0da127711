import Derived.Deep.CutBlock
import Derived.OwnWalk
import Derived.Maps.AppendAt
import Derived.Test.Qxb6500877aGreatDoorAw0
set_option linter.unusedVariables false
set_option linter.unusedSimpArgs false
namespace Go.Proofs.Qxb6500877aGreatDoor
open Go.RowKit

set_option maxRecDepth 20000 in
set_option maxHeartbeats 8000000 in
theorem mstep_0 {w : World} {D base : Nat} {V : Nat → Value} {m : Mdl} {o : OpS} (H : MdlAt w D base V m) (hbw : base ≤ w.heap.size) (K : MOk m) (ho : o.ok) (hkd : o.kd = 0) :
    Calls Tryz.prog 21 #[.pointer (some ⟨D, 0, none⟩), opV o] w fun e w' => ∃ V' a p n c m', e = .returned (.agg (resCs a.z a.co a.tk a.tm a.hm a.mm p n c)) ∧ FrAt w' w.heap.size (.slice p n c) a.fs ∧ ModS m o a m' ∧ MdlAt w' D base V' m' ∧ MFr D V V' w w' := by
  have q0 : ((o.kd : Int) == 0) = true := beq_iff_eq.2 (by omega)
  obtain ⟨c, hc⟩ : ∃ c : Nat, o.a % 4 = c := ⟨(o.a % 4).toNat, by omega⟩
  have hc4 : c < 4 := by omega
  have HK := hideIt hkd
  clear hkd
  have hDl := H.dlt
  have n4D : w.heap.size ≠ D := by omega
  have n5D : (w.heap.size + 1) ≠ D := by omega
  have hF : MdlAt (World.alloc (w.alloc (.cells #[.int .u8 o.kd, .int .i64 o.a, .int .i64 o.b, .int .i64 o.c, .int .u64 o.x, .int .u64 o.y] 32)) (.cells #[.int .i64 0, .int .i64 0, .int .i64 0, .int .u64 0, .bool false, .int .i64 0, .int .i64 0, .int .u32 0, .int .u64 0, .int .u64 0, .int .u64 0, .int .u64 0, .int .u64 0, .int .u64 0, .slice none 0 0] 43)) D base V m ∧ OpAt (World.alloc (w.alloc (.cells #[.int .u8 o.kd, .int .i64 o.a, .int .i64 o.b, .int .i64 o.c, .int .u64 o.x, .int .u64 o.y] 32)) (.cells #[.int .i64 0, .int .i64 0, .int .i64 0, .int .u64 0, .bool false, .int .i64 0, .int .i64 0, .int .u32 0, .int .u64 0, .int .u64 0, .int .u64 0, .int .u64 0, .int .u64 0, .int .u64 0, .slice none 0 0] 43)) w.heap.size o ∧ RowR (World.alloc (w.alloc (.cells #[.int .u8 o.kd, .int .i64 o.a, .int .i64 o.b, .int .i64 o.c, .int .u64 o.x, .int .u64 o.y] 32)) (.cells #[.int .i64 0, .int .i64 0, .int .i64 0, .int .u64 0, .bool false, .int .i64 0, .int .i64 0, .int .u32 0, .int .u64 0, .int .u64 0, .int .u64 0, .int .u64 0, .int .u64 0, .int .u64 0, .slice none 0 0] 43)) (w.heap.size + 1) #[.int .i64 0, .int .i64 0, .int .i64 0, .int .u64 0, .bool false, .int .i64 0, .int .i64 0, .int .u32 0, .int .u64 0, .int .u64 0, .int .u64 0, .int .u64 0, .int .u64 0, .int .u64 0, .slice none 0 0] ∧ MW D V V w (World.alloc (w.alloc (.cells #[.int .u8 o.kd, .int .i64 o.a, .int .i64 o.b, .int .i64 o.c, .int .u64 o.x, .int .u64 o.y] 32)) (.cells #[.int .i64 0, .int .i64 0, .int .i64 0, .int .u64 0, .bool false, .int .i64 0, .int .i64 0, .int .u32 0, .int .u64 0, .int .u64 0, .int .u64 0, .int .u64 0, .int .u64 0, .int .u64 0, .slice none 0 0] 43)) ∧ (Off V w.heap.size ∧ Off V (w.heap.size + 1)) ∧ base ≤ (World.alloc (w.alloc (.cells #[.int .u8 o.kd, .int .i64 o.a, .int .i64 o.b, .int .i64 o.c, .int .u64 o.x, .int .u64 o.y] 32)) (.cells #[.int .i64 0, .int .i64 0, .int .i64 0, .int .u64 0, .bool false, .int .i64 0, .int .i64 0, .int .u32 0, .int .u64 0, .int .u64 0, .int .u64 0, .int .u64 0, .int .u64 0, .int .u64 0, .slice none 0 0] 43)).heap.size := by
    have b1 := one_alloc w (.cells #[.int .u8 o.kd, .int .i64 o.a, .int .i64 o.b, .int .i64 o.c, .int .u64 o.x, .int .u64 o.y] 32)
    have b2 := one_alloc (w.alloc (.cells #[.int .u8 o.kd, .int .i64 o.a, .int .i64 o.b, .int .i64 o.c, .int .u64 o.x, .int .u64 o.y] 32)) (.cells #[.int .i64 0, .int .i64 0, .int .i64 0, .int .u64 0, .bool false, .int .i64 0, .int .i64 0, .int .u32 0, .int .u64 0, .int .u64 0, .int .u64 0, .int .u64 0, .int .u64 0, .int .u64 0, .slice none 0 0] 43)
    have bb := b1.trans (b2.mono b1.size)
    have hs : (w.alloc (.cells #[.int .u8 o.kd, .int .i64 o.a, .int .i64 o.b, .int .i64 o.c, .int .u64 o.x, .int .u64 o.y] 32)).heap.size = w.heap.size + 1 := by simp
    refine ⟨H.below bb, (op_new w o 32).blk (b2.block _ (by omega)), ?_, ((MFr.refl D V w).below bb).mw, ⟨H.off (Nat.le_refl _), H.off (by omega)⟩, Nat.le_trans hbw bb.size⟩
    rw [← hs]
    exact RowR.new _ _
  unfold opV
  go_enter Tryz.func21, Tryz.ntmps21
  go_upto_region 1 with fail
  generalize hW0 : World.alloc (w.alloc (.cells #[.int .u8 o.kd, .int .i64 o.a, .int .i64 o.b, .int .i64 o.c, .int .u64 o.x, .int .u64 o.y] 32)) (.cells #[.int .i64 0, .int .i64 0, .int .i64 0, .int .u64 0, .bool false, .int .i64 0, .int .i64 0, .int .u32 0, .int .u64 0, .int .u64 0, .int .u64 0, .int .u64 0, .int .u64 0, .int .u64 0, .slice none 0 0] 43) = wc at *
  clear hW0
  obtain ⟨H1, OP, R4, Mw, o45, hbs⟩ := hF
  have OP' := OP
  obtain ⟨g0, g1, g2, g3, g4, g5⟩ := OP'
  have hcall := mpick_any H1 hbs hc4 hc (by have := K.wl c hc4; omega) (K.wm c hc4)
  go_wp2_with fail
  refine hcall.mono ?_
  rintro e w5 ⟨V5, was, hrun, rfl, H5, F5⟩
  have HC := hideIt hc
  clear hc
  have R5 := R4.blk (F5.keep o45.2 R4.lt n5D)
  have hs43 := R5.store rfl (cs := (resCs (m.pick c was).c c (m.pick c was).tk 0 false msg0 none 0 0)) rfl (resCs_one _ _ _ _ _ _ _ _ _)
  have o5 := F5.off o45.2 R4.lt
  have HQ := hideIt (And.intro H5 F5)
  clear hcall H5 F5
  go_wp2_with (first | (refine wpList_store_row rfl (.tmp 4) (.tmp 12) 43 rfl ⟨(w.heap.size + 1), 0, none⟩ (.agg (resCs (m.pick c was).c c (m.pick c was).tk 0 false msg0 none 0 0)) rfl rfl hs43 ?_) | go_in)
  refine bodyPost_ret (v := .agg (resCs (m.pick c was).c c (m.pick c was).tk 0 false msg0 none 0 0)) (results_cell_row rfl _ _ (w.heap.size + 1) 43 _ (0, 0) _ rfl R5.row Tryz.underlying43 rfl sz43) rfl ⟨V5, ⟨(m.pick c was).c, c, (m.pick c was).tk, 0, false, msg0, []⟩, none, 0, 0, _, rfl, .inl ⟨rfl, rfl⟩, mods_k0 HK.out ⟨c, was, hc4, HC.out, hrun, rfl, rfl⟩, HQ.out.1.otherRow n5D o5, ((Mw.then HQ.out.2).row (by omega)).fr⟩
set_option maxRecDepth 20000 in
set_option maxHeartbeats 8000000 in
theorem mstep_1 {w : World} {D base : Nat} {V : Nat → Value} {m : Mdl} {o : OpS} (H : MdlAt w D base V m) (hbw : base ≤ w.heap.size) (K : MOk m) (ho : o.ok) (hkd : o.kd = 1) :
    Calls Tryz.prog 21 #[.pointer (some ⟨D, 0, none⟩), opV o] w fun e w' => ∃ V' a p n c m', e = .returned (.agg (resCs a.z a.co a.tk a.tm a.hm a.mm p n c)) ∧ FrAt w' w.heap.size (.slice p n c) a.fs ∧ ModS m o a m' ∧ MdlAt w' D base V' m' ∧ MFr D V V' w w' := by
  have q0 : ((o.kd : Int) == 0) = false := beq_eq_false_iff_ne.2 (by omega)
  have q1 : ((o.kd : Int) == 1) = true := beq_iff_eq.2 (by omega)
  obtain ⟨b, hb⟩ : ∃ b : Nat, o.a % 16 = b := ⟨(o.a % 16).toNat, by omega⟩
  have hb16 : b < 16 := by omega
  have HK := hideIt hkd
  clear hkd
  have hDl := H.dlt
  have n4D : w.heap.size ≠ D := by omega
  have n5D : (w.heap.size + 1) ≠ D := by omega
  have hF : MdlAt (World.alloc (w.alloc (.cells #[.int .u8 o.kd, .int .i64 o.a, .int .i64 o.b, .int .i64 o.c, .int .u64 o.x, .int .u64 o.y] 32)) (.cells #[.int .i64 0, .int .i64 0, .int .i64 0, .int .u64 0, .bool false, .int .i64 0, .int .i64 0, .int .u32 0, .int .u64 0, .int .u64 0, .int .u64 0, .int .u64 0, .int .u64 0, .int .u64 0, .slice none 0 0] 43)) D base V m ∧ OpAt (World.alloc (w.alloc (.cells #[.int .u8 o.kd, .int .i64 o.a, .int .i64 o.b, .int .i64 o.c, .int .u64 o.x, .int .u64 o.y] 32)) (.cells #[.int .i64 0, .int .i64 0, .int .i64 0, .int .u64 0, .bool false, .int .i64 0, .int .i64 0, .int .u32 0, .int .u64 0, .int .u64 0, .int .u64 0, .int .u64 0, .int .u64 0, .int .u64 0, .slice none 0 0] 43)) w.heap.size o ∧ RowR (World.alloc (w.alloc (.cells #[.int .u8 o.kd, .int .i64 o.a, .int .i64 o.b, .int .i64 o.c, .int .u64 o.x, .int .u64 o.y] 32)) (.cells #[.int .i64 0, .int .i64 0, .int .i64 0, .int .u64 0, .bool false, .int .i64 0, .int .i64 0, .int .u32 0, .int .u64 0, .int .u64 0, .int .u64 0, .int .u64 0, .int .u64 0, .int .u64 0, .slice none 0 0] 43)) (w.heap.size + 1) #[.int .i64 0, .int .i64 0, .int .i64 0, .int .u64 0, .bool false, .int .i64 0, .int .i64 0, .int .u32 0, .int .u64 0, .int .u64 0, .int .u64 0, .int .u64 0, .int .u64 0, .int .u64 0, .slice none 0 0] ∧ MW D V V w (World.alloc (w.alloc (.cells #[.int .u8 o.kd, .int .i64 o.a, .int .i64 o.b, .int .i64 o.c, .int .u64 o.x, .int .u64 o.y] 32)) (.cells #[.int .i64 0, .int .i64 0, .int .i64 0, .int .u64 0, .bool false, .int .i64 0, .int .i64 0, .int .u32 0, .int .u64 0, .int .u64 0, .int .u64 0, .int .u64 0, .int .u64 0, .int .u64 0, .slice none 0 0] 43)) ∧ (Off V w.heap.size ∧ Off V (w.heap.size + 1)) ∧ base ≤ (World.alloc (w.alloc (.cells #[.int .u8 o.kd, .int .i64 o.a, .int .i64 o.b, .int .i64 o.c, .int .u64 o.x, .int .u64 o.y] 32)) (.cells #[.int .i64 0, .int .i64 0, .int .i64 0, .int .u64 0, .bool false, .int .i64 0, .int .i64 0, .int .u32 0, .int .u64 0, .int .u64 0, .int .u64 0, .int .u64 0, .int .u64 0, .int .u64 0, .slice none 0 0] 43)).heap.size := by
    have b1 := one_alloc w (.cells #[.int .u8 o.kd, .int .i64 o.a, .int .i64 o.b, .int .i64 o.c, .int .u64 o.x, .int .u64 o.y] 32)
    have b2 := one_alloc (w.alloc (.cells #[.int .u8 o.kd, .int .i64 o.a, .int .i64 o.b, .int .i64 o.c, .int .u64 o.x, .int .u64 o.y] 32)) (.cells #[.int .i64 0, .int .i64 0, .int .i64 0, .int .u64 0, .bool false, .int .i64 0, .int .i64 0, .int .u32 0, .int .u64 0, .int .u64 0, .int .u64 0, .int .u64 0, .int .u64 0, .int .u64 0, .slice none 0 0] 43)
    have bb := b1.trans (b2.mono b1.size)
    have hs : (w.alloc (.cells #[.int .u8 o.kd, .int .i64 o.a, .int .i64 o.b, .int .i64 o.c, .int .u64 o.x, .int .u64 o.y] 32)).heap.size = w.heap.size + 1 := by simp
    refine ⟨H.below bb, (op_new w o 32).blk (b2.block _ (by omega)), ?_, ((MFr.refl D V w).below bb).mw, ⟨H.off (Nat.le_refl _), H.off (by omega)⟩, Nat.le_trans hbw bb.size⟩
    rw [← hs]
    exact RowR.new _ _
  unfold opV
  go_enter Tryz.func21, Tryz.ntmps21
  go_upto_region 1 with fail
  generalize hW0 : World.alloc (w.alloc (.cells #[.int .u8 o.kd, .int .i64 o.a, .int .i64 o.b, .int .i64 o.c, .int .u64 o.x, .int .u64 o.y] 32)) (.cells #[.int .i64 0, .int .i64 0, .int .i64 0, .int .u64 0, .bool false, .int .i64 0, .int .i64 0, .int .u32 0, .int .u64 0, .int .u64 0, .int .u64 0, .int .u64 0, .int .u64 0, .int .u64 0, .slice none 0 0] 43) = wc at *
  clear hW0
  obtain ⟨H1, OP, R4, Mw, o45, hbs⟩ := hF
  have OP' := OP
  obtain ⟨g0, g1, g2, g3, g4, g5⟩ := OP'
  have hcall := mdeliver_any H1 hbs hb16 hb (by have := K.bl b hb16; omega)
  go_wp2_with fail
  refine hcall.mono ?_
  rintro e w5 ⟨V5, z, hm, mm, m5, rfl, hsp, H5, F5⟩
  have HC := hideIt hb
  have HS := hideIt hsp
  clear hb hsp
  have R5 := R4.blk (F5.keep o45.2 R4.lt n5D)
  have hs43 := R5.store rfl (cs := (resCs z ((b % 4 : Nat) : Int) (-1) 0 hm mm none 0 0)) rfl (resCs_one _ _ _ _ _ _ _ _ _)
  have o5 := F5.off o45.2 R4.lt
  have HQ := hideIt (And.intro H5 F5)
  clear hcall H5 F5
  go_wp2_with (first | (refine wpList_store_row rfl (.tmp 4) (.tmp 18) 43 rfl ⟨(w.heap.size + 1), 0, none⟩ (.agg (resCs z ((b % 4 : Nat) : Int) (-1) 0 hm mm none 0 0)) rfl rfl hs43 ?_) | go_in)
  refine bodyPost_ret (v := .agg (resCs z ((b % 4 : Nat) : Int) (-1) 0 hm mm none 0 0)) (results_cell_row rfl _ _ (w.heap.size + 1) 43 _ (0, 0) _ rfl R5.row Tryz.underlying43 rfl sz43) rfl ⟨V5, ⟨z, ((b % 4 : Nat) : Int), -1, 0, hm, mm, []⟩, none, 0, 0, _, rfl, .inl ⟨rfl, rfl⟩, mods_k1 HK.out ⟨b, z, hm, mm, hb16, HC.out, rfl, HS.out⟩, HQ.out.1.otherRow n5D o5, ((Mw.then HQ.out.2).row (by omega)).fr⟩
set_option maxRecDepth 20000 in
set_option maxHeartbeats 8000000 in
theorem mstep_2 {w : World} {D base : Nat} {V : Nat → Value} {m : Mdl} {o : OpS} (H : MdlAt w D base V m) (hbw : base ≤ w.heap.size) (K : MOk m) (ho : o.ok) (hkd : o.kd = 2) :
    Calls Tryz.prog 21 #[.pointer (some ⟨D, 0, none⟩), opV o] w fun e w' => ∃ V' a p n c m', e = .returned (.agg (resCs a.z a.co a.tk a.tm a.hm a.mm p n c)) ∧ FrAt w' w.heap.size (.slice p n c) a.fs ∧ ModS m o a m' ∧ MdlAt w' D base V' m' ∧ MFr D V V' w w' := by
  have q0 : ((o.kd : Int) == 0) = false := beq_eq_false_iff_ne.2 (by omega)
  have q1 : ((o.kd : Int) == 1) = false := beq_eq_false_iff_ne.2 (by omega)
  have q2 : ((o.kd : Int) == 2) = true := beq_iff_eq.2 (by omega)
  have HK := hideIt hkd
  clear hkd
  have hDl := H.dlt
  have n4D : w.heap.size ≠ D := by omega
  have n5D : (w.heap.size + 1) ≠ D := by omega
  have hF : MdlAt (World.alloc (w.alloc (.cells #[.int .u8 o.kd, .int .i64 o.a, .int .i64 o.b, .int .i64 o.c, .int .u64 o.x, .int .u64 o.y] 32)) (.cells #[.int .i64 0, .int .i64 0, .int .i64 0, .int .u64 0, .bool false, .int .i64 0, .int .i64 0, .int .u32 0, .int .u64 0, .int .u64 0, .int .u64 0, .int .u64 0, .int .u64 0, .int .u64 0, .slice none 0 0] 43)) D base V m ∧ OpAt (World.alloc (w.alloc (.cells #[.int .u8 o.kd, .int .i64 o.a, .int .i64 o.b, .int .i64 o.c, .int .u64 o.x, .int .u64 o.y] 32)) (.cells #[.int .i64 0, .int .i64 0, .int .i64 0, .int .u64 0, .bool false, .int .i64 0, .int .i64 0, .int .u32 0, .int .u64 0, .int .u64 0, .int .u64 0, .int .u64 0, .int .u64 0, .int .u64 0, .slice none 0 0] 43)) w.heap.size o ∧ RowR (World.alloc (w.alloc (.cells #[.int .u8 o.kd, .int .i64 o.a, .int .i64 o.b, .int .i64 o.c, .int .u64 o.x, .int .u64 o.y] 32)) (.cells #[.int .i64 0, .int .i64 0, .int .i64 0, .int .u64 0, .bool false, .int .i64 0, .int .i64 0, .int .u32 0, .int .u64 0, .int .u64 0, .int .u64 0, .int .u64 0, .int .u64 0, .int .u64 0, .slice none 0 0] 43)) (w.heap.size + 1) #[.int .i64 0, .int .i64 0, .int .i64 0, .int .u64 0, .bool false, .int .i64 0, .int .i64 0, .int .u32 0, .int .u64 0, .int .u64 0, .int .u64 0, .int .u64 0, .int .u64 0, .int .u64 0, .slice none 0 0] ∧ MW D V V w (World.alloc (w.alloc (.cells #[.int .u8 o.kd, .int .i64 o.a, .int .i64 o.b, .int .i64 o.c, .int .u64 o.x, .int .u64 o.y] 32)) (.cells #[.int .i64 0, .int .i64 0, .int .i64 0, .int .u64 0, .bool false, .int .i64 0, .int .i64 0, .int .u32 0, .int .u64 0, .int .u64 0, .int .u64 0, .int .u64 0, .int .u64 0, .int .u64 0, .slice none 0 0] 43)) ∧ (Off V w.heap.size ∧ Off V (w.heap.size + 1)) ∧ base ≤ (World.alloc (w.alloc (.cells #[.int .u8 o.kd, .int .i64 o.a, .int .i64 o.b, .int .i64 o.c, .int .u64 o.x, .int .u64 o.y] 32)) (.cells #[.int .i64 0, .int .i64 0, .int .i64 0, .int .u64 0, .bool false, .int .i64 0, .int .i64 0, .int .u32 0, .int .u64 0, .int .u64 0, .int .u64 0, .int .u64 0, .int .u64 0, .int .u64 0, .slice none 0 0] 43)).heap.size := by
    have b1 := one_alloc w (.cells #[.int .u8 o.kd, .int .i64 o.a, .int .i64 o.b, .int .i64 o.c, .int .u64 o.x, .int .u64 o.y] 32)
    have b2 := one_alloc (w.alloc (.cells #[.int .u8 o.kd, .int .i64 o.a, .int .i64 o.b, .int .i64 o.c, .int .u64 o.x, .int .u64 o.y] 32)) (.cells #[.int .i64 0, .int .i64 0, .int .i64 0, .int .u64 0, .bool false, .int .i64 0, .int .i64 0, .int .u32 0, .int .u64 0, .int .u64 0, .int .u64 0, .int .u64 0, .int .u64 0, .int .u64 0, .slice none 0 0] 43)
    have bb := b1.trans (b2.mono b1.size)
    have hs : (w.alloc (.cells #[.int .u8 o.kd, .int .i64 o.a, .int .i64 o.b, .int .i64 o.c, .int .u64 o.x, .int .u64 o.y] 32)).heap.size = w.heap.size + 1 := by simp
    refine ⟨H.below bb, (op_new w o 32).blk (b2.block _ (by omega)), ?_, ((MFr.refl D V w).below bb).mw, ⟨H.off (Nat.le_refl _), H.off (by omega)⟩, Nat.le_trans hbw bb.size⟩
    rw [← hs]
    exact RowR.new _ _
  unfold opV
  go_enter Tryz.func21, Tryz.ntmps21
  go_upto_region 1 with fail
  generalize hW0 : World.alloc (w.alloc (.cells #[.int .u8 o.kd, .int .i64 o.a, .int .i64 o.b, .int .i64 o.c, .int .u64 o.x, .int .u64 o.y] 32)) (.cells #[.int .i64 0, .int .i64 0, .int .i64 0, .int .u64 0, .bool false, .int .i64 0, .int .i64 0, .int .u32 0, .int .u64 0, .int .u64 0, .int .u64 0, .int .u64 0, .int .u64 0, .int .u64 0, .slice none 0 0] 43) = wc at *
  clear hW0
  obtain ⟨H1, OP, R4, Mw, o45, hbs⟩ := hF
  have OP' := OP
  obtain ⟨g0, g1, g2, g3, g4, g5⟩ := OP'
  have hcall := mticks_any (n := 1) H1 hbs (by have := K.tl; omega) K.tc (by have := ho.x; omega) K.nw
  go_wp2_with fail
  refine hcall.mono ?_
  rintro e w5 ⟨V5, p, n, c, fs, m5, rfl, hfr, hsp, H5, F5⟩
  have hw1 := Mw.size
  have hr1 := R4.lt
  have HS := hideIt hsp
  have HFR := hideIt hfr
  clear hsp hfr
  have R5 := R4.blk (F5.keep o45.2 R4.lt n5D)
  have hs43 := R5.store rfl (cs := (resCs 0 (-1) (-1) 0 false msg0 p n c)) rfl (resCs_one _ _ _ _ _ _ _ _ _)
  have o5 := F5.off o45.2 R4.lt
  have HQ := hideIt (And.intro H5 F5)
  clear hcall H5 F5
  go_wp2_with (first | (refine wpList_store_row rfl (.tmp 4) (.tmp 22) 43 rfl ⟨(w.heap.size + 1), 0, none⟩ (.agg (resCs 0 (-1) (-1) 0 false msg0 p n c)) rfl rfl hs43 ?_) | go_in)
  refine bodyPost_ret (v := .agg (resCs 0 (-1) (-1) 0 false msg0 p n c)) (results_cell_row rfl _ _ (w.heap.size + 1) 43 _ (0, 0) _ rfl R5.row Tryz.underlying43 rfl sz43) rfl ⟨V5, ⟨0, -1, -1, 0, false, msg0, fs⟩, p, n, c, _, rfl, (HFR.out.keep (by rw [setRow_size]; exact Nat.le_refl _) (fun k hk _ => setRow_far (by omega))).mono (by omega), mods_k2 HK.out ⟨fs, rfl, HS.out⟩, HQ.out.1.otherRow n5D o5, ((Mw.then HQ.out.2).row (by omega)).fr⟩
set_option maxRecDepth 20000 in
set_option maxHeartbeats 8000000 in
theorem mstep_3 {w : World} {D base : Nat} {V : Nat → Value} {m : Mdl} {o : OpS} (H : MdlAt w D base V m) (hbw : base ≤ w.heap.size) (K : MOk m) (ho : o.ok) (hkd : o.kd = 3) :
    Calls Tryz.prog 21 #[.pointer (some ⟨D, 0, none⟩), opV o] w fun e w' => ∃ V' a p n c m', e = .returned (.agg (resCs a.z a.co a.tk a.tm a.hm a.mm p n c)) ∧ FrAt w' w.heap.size (.slice p n c) a.fs ∧ ModS m o a m' ∧ MdlAt w' D base V' m' ∧ MFr D V V' w w' := by
  have q0 : ((o.kd : Int) == 0) = false := beq_eq_false_iff_ne.2 (by omega)
  have q1 : ((o.kd : Int) == 1) = false := beq_eq_false_iff_ne.2 (by omega)
  have q2 : ((o.kd : Int) == 2) = false := beq_eq_false_iff_ne.2 (by omega)
  have q3 : ((o.kd : Int) == 3) = true := beq_iff_eq.2 (by omega)
  have HK := hideIt hkd
  clear hkd
  have hDl := H.dlt
  have n4D : w.heap.size ≠ D := by omega
  have n5D : (w.heap.size + 1) ≠ D := by omega
  have hF : MdlAt (World.alloc (w.alloc (.cells #[.int .u8 o.kd, .int .i64 o.a, .int .i64 o.b, .int .i64 o.c, .int .u64 o.x, .int .u64 o.y] 32)) (.cells #[.int .i64 0, .int .i64 0, .int .i64 0, .int .u64 0, .bool false, .int .i64 0, .int .i64 0, .int .u32 0, .int .u64 0, .int .u64 0, .int .u64 0, .int .u64 0, .int .u64 0, .int .u64 0, .slice none 0 0] 43)) D base V m ∧ OpAt (World.alloc (w.alloc (.cells #[.int .u8 o.kd, .int .i64 o.a, .int .i64 o.b, .int .i64 o.c, .int .u64 o.x, .int .u64 o.y] 32)) (.cells #[.int .i64 0, .int .i64 0, .int .i64 0, .int .u64 0, .bool false, .int .i64 0, .int .i64 0, .int .u32 0, .int .u64 0, .int .u64 0, .int .u64 0, .int .u64 0, .int .u64 0, .int .u64 0, .slice none 0 0] 43)) w.heap.size o ∧ RowR (World.alloc (w.alloc (.cells #[.int .u8 o.kd, .int .i64 o.a, .int .i64 o.b, .int .i64 o.c, .int .u64 o.x, .int .u64 o.y] 32)) (.cells #[.int .i64 0, .int .i64 0, .int .i64 0, .int .u64 0, .bool false, .int .i64 0, .int .i64 0, .int .u32 0, .int .u64 0, .int .u64 0, .int .u64 0, .int .u64 0, .int .u64 0, .int .u64 0, .slice none 0 0] 43)) (w.heap.size + 1) #[.int .i64 0, .int .i64 0, .int .i64 0, .int .u64 0, .bool false, .int .i64 0, .int .i64 0, .int .u32 0, .int .u64 0, .int .u64 0, .int .u64 0, .int .u64 0, .int .u64 0, .int .u64 0, .slice none 0 0] ∧ MW D V V w (World.alloc (w.alloc (.cells #[.int .u8 o.kd, .int .i64 o.a, .int .i64 o.b, .int .i64 o.c, .int .u64 o.x, .int .u64 o.y] 32)) (.cells #[.int .i64 0, .int .i64 0, .int .i64 0, .int .u64 0, .bool false, .int .i64 0, .int .i64 0, .int .u32 0, .int .u64 0, .int .u64 0, .int .u64 0, .int .u64 0, .int .u64 0, .int .u64 0, .slice none 0 0] 43)) ∧ (Off V w.heap.size ∧ Off V (w.heap.size + 1)) ∧ base ≤ (World.alloc (w.alloc (.cells #[.int .u8 o.kd, .int .i64 o.a, .int .i64 o.b, .int .i64 o.c, .int .u64 o.x, .int .u64 o.y] 32)) (.cells #[.int .i64 0, .int .i64 0, .int .i64 0, .int .u64 0, .bool false, .int .i64 0, .int .i64 0, .int .u32 0, .int .u64 0, .int .u64 0, .int .u64 0, .int .u64 0, .int .u64 0, .int .u64 0, .slice none 0 0] 43)).heap.size := by
    have b1 := one_alloc w (.cells #[.int .u8 o.kd, .int .i64 o.a, .int .i64 o.b, .int .i64 o.c, .int .u64 o.x, .int .u64 o.y] 32)
    have b2 := one_alloc (w.alloc (.cells #[.int .u8 o.kd, .int .i64 o.a, .int .i64 o.b, .int .i64 o.c, .int .u64 o.x, .int .u64 o.y] 32)) (.cells #[.int .i64 0, .int .i64 0, .int .i64 0, .int .u64 0, .bool false, .int .i64 0, .int .i64 0, .int .u32 0, .int .u64 0, .int .u64 0, .int .u64 0, .int .u64 0, .int .u64 0, .int .u64 0, .slice none 0 0] 43)
    have bb := b1.trans (b2.mono b1.size)
    have hs : (w.alloc (.cells #[.int .u8 o.kd, .int .i64 o.a, .int .i64 o.b, .int .i64 o.c, .int .u64 o.x, .int .u64 o.y] 32)).heap.size = w.heap.size + 1 := by simp
    refine ⟨H.below bb, (op_new w o 32).blk (b2.block _ (by omega)), ?_, ((MFr.refl D V w).below bb).mw, ⟨H.off (Nat.le_refl _), H.off (by omega)⟩, Nat.le_trans hbw bb.size⟩
    rw [← hs]
    exact RowR.new _ _
  unfold opV
  go_enter Tryz.func21, Tryz.ntmps21
  go_upto_region 1 with fail
  generalize hW0 : World.alloc (w.alloc (.cells #[.int .u8 o.kd, .int .i64 o.a, .int .i64 o.b, .int .i64 o.c, .int .u64 o.x, .int .u64 o.y] 32)) (.cells #[.int .i64 0, .int .i64 0, .int .i64 0, .int .u64 0, .bool false, .int .i64 0, .int .i64 0, .int .u32 0, .int .u64 0, .int .u64 0, .int .u64 0, .int .u64 0, .int .u64 0, .int .u64 0, .slice none 0 0] 43) = wc at *
  clear hW0
  obtain ⟨H1, OP, R4, Mw, o45, hbs⟩ := hF
  have OP' := OP
  obtain ⟨g0, g1, g2, g3, g4, g5⟩ := OP'
  have hcall := mticks_any (n := (o.x : Int)) H1 hbs (by have := K.tl; omega) K.tc (by have := ho.x; omega) K.nw
  go_wp2_with fail
  refine hcall.mono ?_
  rintro e w5 ⟨V5, p, n, c, fs, m5, rfl, hfr, hsp, H5, F5⟩
  have hw1 := Mw.size
  have hr1 := R4.lt
  have HS := hideIt hsp
  have HFR := hideIt hfr
  clear hsp hfr
  have R5 := R4.blk (F5.keep o45.2 R4.lt n5D)
  have hs43 := R5.store rfl (cs := (resCs 0 (-1) (-1) 0 false msg0 p n c)) rfl (resCs_one _ _ _ _ _ _ _ _ _)
  have o5 := F5.off o45.2 R4.lt
  have HQ := hideIt (And.intro H5 F5)
  clear hcall H5 F5
  go_wp2_with (first | (refine wpList_store_row rfl (.tmp 4) (.tmp 28) 43 rfl ⟨(w.heap.size + 1), 0, none⟩ (.agg (resCs 0 (-1) (-1) 0 false msg0 p n c)) rfl rfl hs43 ?_) | go_in)
  refine bodyPost_ret (v := .agg (resCs 0 (-1) (-1) 0 false msg0 p n c)) (results_cell_row rfl _ _ (w.heap.size + 1) 43 _ (0, 0) _ rfl R5.row Tryz.underlying43 rfl sz43) rfl ⟨V5, ⟨0, -1, -1, 0, false, msg0, fs⟩, p, n, c, _, rfl, (HFR.out.keep (by rw [setRow_size]; exact Nat.le_refl _) (fun k hk _ => setRow_far (by omega))).mono (by omega), mods_k3 HK.out ⟨fs, rfl, HS.out⟩, HQ.out.1.otherRow n5D o5, ((Mw.then HQ.out.2).row (by omega)).fr⟩
set_option maxRecDepth 20000 in
set_option maxHeartbeats 8000000 in
theorem mstep_4 {w : World} {D base : Nat} {V : Nat → Value} {m : Mdl} {o : OpS} (H : MdlAt w D base V m) (hbw : base ≤ w.heap.size) (K : MOk m) (ho : o.ok) (hkd : o.kd = 4) :
    Calls Tryz.prog 21 #[.pointer (some ⟨D, 0, none⟩), opV o] w fun e w' => ∃ V' a p n c m', e = .returned (.agg (resCs a.z a.co a.tk a.tm a.hm a.mm p n c)) ∧ FrAt w' w.heap.size (.slice p n c) a.fs ∧ ModS m o a m' ∧ MdlAt w' D base V' m' ∧ MFr D V V' w w' := by
  have q0 : ((o.kd : Int) == 0) = false := beq_eq_false_iff_ne.2 (by omega)
  have q1 : ((o.kd : Int) == 1) = false := beq_eq_false_iff_ne.2 (by omega)
  have q2 : ((o.kd : Int) == 2) = false := beq_eq_false_iff_ne.2 (by omega)
  have q3 : ((o.kd : Int) == 3) = false := beq_eq_false_iff_ne.2 (by omega)
  have q4 : ((o.kd : Int) == 4) = true := beq_iff_eq.2 (by omega)
  have HK := hideIt hkd
  clear hkd
  have hDl := H.dlt
  have n4D : w.heap.size ≠ D := by omega
  have n5D : (w.heap.size + 1) ≠ D := by omega
  have hF : MdlAt (World.alloc (w.alloc (.cells #[.int .u8 o.kd, .int .i64 o.a, .int .i64 o.b, .int .i64 o.c, .int .u64 o.x, .int .u64 o.y] 32)) (.cells #[.int .i64 0, .int .i64 0, .int .i64 0, .int .u64 0, .bool false, .int .i64 0, .int .i64 0, .int .u32 0, .int .u64 0, .int .u64 0, .int .u64 0, .int .u64 0, .int .u64 0, .int .u64 0, .slice none 0 0] 43)) D base V m ∧ OpAt (World.alloc (w.alloc (.cells #[.int .u8 o.kd, .int .i64 o.a, .int .i64 o.b, .int .i64 o.c, .int .u64 o.x, .int .u64 o.y] 32)) (.cells #[.int .i64 0, .int .i64 0, .int .i64 0, .int .u64 0, .bool false, .int .i64 0, .int .i64 0, .int .u32 0, .int .u64 0, .int .u64 0, .int .u64 0, .int .u64 0, .int .u64 0, .int .u64 0, .slice none 0 0] 43)) w.heap.size o ∧ RowR (World.alloc (w.alloc (.cells #[.int .u8 o.kd, .int .i64 o.a, .int .i64 o.b, .int .i64 o.c, .int .u64 o.x, .int .u64 o.y] 32)) (.cells #[.int .i64 0, .int .i64 0, .int .i64 0, .int .u64 0, .bool false, .int .i64 0, .int .i64 0, .int .u32 0, .int .u64 0, .int .u64 0, .int .u64 0, .int .u64 0, .int .u64 0, .int .u64 0, .slice none 0 0] 43)) (w.heap.size + 1) #[.int .i64 0, .int .i64 0, .int .i64 0, .int .u64 0, .bool false, .int .i64 0, .int .i64 0, .int .u32 0, .int .u64 0, .int .u64 0, .int .u64 0, .int .u64 0, .int .u64 0, .int .u64 0, .slice none 0 0] ∧ MW D V V w (World.alloc (w.alloc (.cells #[.int .u8 o.kd, .int .i64 o.a, .int .i64 o.b, .int .i64 o.c, .int .u64 o.x, .int .u64 o.y] 32)) (.cells #[.int .i64 0, .int .i64 0, .int .i64 0, .int .u64 0, .bool false, .int .i64 0, .int .i64 0, .int .u32 0, .int .u64 0, .int .u64 0, .int .u64 0, .int .u64 0, .int .u64 0, .int .u64 0, .slice none 0 0] 43)) ∧ (Off V w.heap.size ∧ Off V (w.heap.size + 1)) ∧ base ≤ (World.alloc (w.alloc (.cells #[.int .u8 o.kd, .int .i64 o.a, .int .i64 o.b, .int .i64 o.c, .int .u64 o.x, .int .u64 o.y] 32)) (.cells #[.int .i64 0, .int .i64 0, .int .i64 0, .int .u64 0, .bool false, .int .i64 0, .int .i64 0, .int .u32 0, .int .u64 0, .int .u64 0, .int .u64 0, .int .u64 0, .int .u64 0, .int .u64 0, .slice none 0 0] 43)).heap.size := by
    have b1 := one_alloc w (.cells #[.int .u8 o.kd, .int .i64 o.a, .int .i64 o.b, .int .i64 o.c, .int .u64 o.x, .int .u64 o.y] 32)
    have b2 := one_alloc (w.alloc (.cells #[.int .u8 o.kd, .int .i64 o.a, .int .i64 o.b, .int .i64 o.c, .int .u64 o.x, .int .u64 o.y] 32)) (.cells #[.int .i64 0, .int .i64 0, .int .i64 0, .int .u64 0, .bool false, .int .i64 0, .int .i64 0, .int .u32 0, .int .u64 0, .int .u64 0, .int .u64 0, .int .u64 0, .int .u64 0, .int .u64 0, .slice none 0 0] 43)
    have bb := b1.trans (b2.mono b1.size)
    have hs : (w.alloc (.cells #[.int .u8 o.kd, .int .i64 o.a, .int .i64 o.b, .int .i64 o.c, .int .u64 o.x, .int .u64 o.y] 32)).heap.size = w.heap.size + 1 := by simp
    refine ⟨H.below bb, (op_new w o 32).blk (b2.block _ (by omega)), ?_, ((MFr.refl D V w).below bb).mw, ⟨H.off (Nat.le_refl _), H.off (by omega)⟩, Nat.le_trans hbw bb.size⟩
    rw [← hs]
    exact RowR.new _ _
  unfold opV
  go_enter Tryz.func21, Tryz.ntmps21
  go_upto_region 1 with fail
  generalize hW0 : World.alloc (w.alloc (.cells #[.int .u8 o.kd, .int .i64 o.a, .int .i64 o.b, .int .i64 o.c, .int .u64 o.x, .int .u64 o.y] 32)) (.cells #[.int .i64 0, .int .i64 0, .int .i64 0, .int .u64 0, .bool false, .int .i64 0, .int .i64 0, .int .u32 0, .int .u64 0, .int .u64 0, .int .u64 0, .int .u64 0, .int .u64 0, .int .u64 0, .slice none 0 0] 43) = wc at *
  clear hW0
  obtain ⟨H1, OP, R4, Mw, o45, hbs⟩ := hF
  have OP' := OP
  obtain ⟨g0, g1, g2, g3, g4, g5⟩ := OP'
  have hcall := msend_any (o := o) H1 hbs (fun b hb => by have := K.bl b hb; omega)
  unfold opV at hcall
  go_wp2_with fail
  refine hcall.mono ?_
  rintro e w5 ⟨V5, z, co, m5, rfl, hsp, H5, F5⟩
  have HS := hideIt hsp
  clear hsp
  have R5 := R4.blk (F5.keep o45.2 R4.lt n5D)
  have hs43 := R5.store rfl (cs := (resCs z co (-1) 0 false msg0 none 0 0)) rfl (resCs_one _ _ _ _ _ _ _ _ _)
  have o5 := F5.off o45.2 R4.lt
  have HQ := hideIt (And.intro H5 F5)
  clear hcall H5 F5
  go_wp2_with (first | (refine wpList_store_row rfl (.tmp 4) (.tmp 33) 43 rfl ⟨(w.heap.size + 1), 0, none⟩ (.agg (resCs z co (-1) 0 false msg0 none 0 0)) rfl rfl hs43 ?_) | go_in)
  refine bodyPost_ret (v := .agg (resCs z co (-1) 0 false msg0 none 0 0)) (results_cell_row rfl _ _ (w.heap.size + 1) 43 _ (0, 0) _ rfl R5.row Tryz.underlying43 rfl sz43) rfl ⟨V5, ⟨z, co, -1, 0, false, msg0, []⟩, none, 0, 0, _, rfl, .inl ⟨rfl, rfl⟩, mods_k4 HK.out ⟨z, co, rfl, HS.out⟩, HQ.out.1.otherRow n5D o5, ((Mw.then HQ.out.2).row (by omega)).fr⟩
set_option maxRecDepth 20000 in
set_option maxHeartbeats 8000000 in
theorem mstep_5 {w : World} {D base : Nat} {V : Nat → Value} {m : Mdl} {o : OpS} (H : MdlAt w D base V m) (hbw : base ≤ w.heap.size) (K : MOk m) (ho : o.ok) (hkd : o.kd = 5) :
    Calls Tryz.prog 21 #[.pointer (some ⟨D, 0, none⟩), opV o] w fun e w' => ∃ V' a p n c m', e = .returned (.agg (resCs a.z a.co a.tk a.tm a.hm a.mm p n c)) ∧ FrAt w' w.heap.size (.slice p n c) a.fs ∧ ModS m o a m' ∧ MdlAt w' D base V' m' ∧ MFr D V V' w w' := by
  have q0 : ((o.kd : Int) == 0) = false := beq_eq_false_iff_ne.2 (by omega)
  have q1 : ((o.kd : Int) == 1) = false := beq_eq_false_iff_ne.2 (by omega)
  have q2 : ((o.kd : Int) == 2) = false := beq_eq_false_iff_ne.2 (by omega)
  have q3 : ((o.kd : Int) == 3) = false := beq_eq_false_iff_ne.2 (by omega)
  have q4 : ((o.kd : Int) == 4) = false := beq_eq_false_iff_ne.2 (by omega)
  have q5 : ((o.kd : Int) == 5) = true := beq_iff_eq.2 (by omega)
  have HK := hideIt hkd
  clear hkd
  have hDl := H.dlt
  have n4D : w.heap.size ≠ D := by omega
  have n5D : (w.heap.size + 1) ≠ D := by omega
  have hF : MdlAt (World.alloc (w.alloc (.cells #[.int .u8 o.kd, .int .i64 o.a, .int .i64 o.b, .int .i64 o.c, .int .u64 o.x, .int .u64 o.y] 32)) (.cells #[.int .i64 0, .int .i64 0, .int .i64 0, .int .u64 0, .bool false, .int .i64 0, .int .i64 0, .int .u32 0, .int .u64 0, .int .u64 0, .int .u64 0, .int .u64 0, .int .u64 0, .int .u64 0, .slice none 0 0] 43)) D base V m ∧ OpAt (World.alloc (w.alloc (.cells #[.int .u8 o.kd, .int .i64 o.a, .int .i64 o.b, .int .i64 o.c, .int .u64 o.x, .int .u64 o.y] 32)) (.cells #[.int .i64 0, .int .i64 0, .int .i64 0, .int .u64 0, .bool false, .int .i64 0, .int .i64 0, .int .u32 0, .int .u64 0, .int .u64 0, .int .u64 0, .int .u64 0, .int .u64 0, .int .u64 0, .slice none 0 0] 43)) w.heap.size o ∧ RowR (World.alloc (w.alloc (.cells #[.int .u8 o.kd, .int .i64 o.a, .int .i64 o.b, .int .i64 o.c, .int .u64 o.x, .int .u64 o.y] 32)) (.cells #[.int .i64 0, .int .i64 0, .int .i64 0, .int .u64 0, .bool false, .int .i64 0, .int .i64 0, .int .u32 0, .int .u64 0, .int .u64 0, .int .u64 0, .int .u64 0, .int .u64 0, .int .u64 0, .slice none 0 0] 43)) (w.heap.size + 1) #[.int .i64 0, .int .i64 0, .int .i64 0, .int .u64 0, .bool false, .int .i64 0, .int .i64 0, .int .u32 0, .int .u64 0, .int .u64 0, .int .u64 0, .int .u64 0, .int .u64 0, .int .u64 0, .slice none 0 0] ∧ MW D V V w (World.alloc (w.alloc (.cells #[.int .u8 o.kd, .int .i64 o.a, .int .i64 o.b, .int .i64 o.c, .int .u64 o.x, .int .u64 o.y] 32)) (.cells #[.int .i64 0, .int .i64 0, .int .i64 0, .int .u64 0, .bool false, .int .i64 0, .int .i64 0, .int .u32 0, .int .u64 0, .int .u64 0, .int .u64 0, .int .u64 0, .int .u64 0, .int .u64 0, .slice none 0 0] 43)) ∧ (Off V w.heap.size ∧ Off V (w.heap.size + 1)) ∧ base ≤ (World.alloc (w.alloc (.cells #[.int .u8 o.kd, .int .i64 o.a, .int .i64 o.b, .int .i64 o.c, .int .u64 o.x, .int .u64 o.y] 32)) (.cells #[.int .i64 0, .int .i64 0, .int .i64 0, .int .u64 0, .bool false, .int .i64 0, .int .i64 0, .int .u32 0, .int .u64 0, .int .u64 0, .int .u64 0, .int .u64 0, .int .u64 0, .int .u64 0, .slice none 0 0] 43)).heap.size := by
    have b1 := one_alloc w (.cells #[.int .u8 o.kd, .int .i64 o.a, .int .i64 o.b, .int .i64 o.c, .int .u64 o.x, .int .u64 o.y] 32)
    have b2 := one_alloc (w.alloc (.cells #[.int .u8 o.kd, .int .i64 o.a, .int .i64 o.b, .int .i64 o.c, .int .u64 o.x, .int .u64 o.y] 32)) (.cells #[.int .i64 0, .int .i64 0, .int .i64 0, .int .u64 0, .bool false, .int .i64 0, .int .i64 0, .int .u32 0, .int .u64 0, .int .u64 0, .int .u64 0, .int .u64 0, .int .u64 0, .int .u64 0, .slice none 0 0] 43)
    have bb := b1.trans (b2.mono b1.size)
    have hs : (w.alloc (.cells #[.int .u8 o.kd, .int .i64 o.a, .int .i64 o.b, .int .i64 o.c, .int .u64 o.x, .int .u64 o.y] 32)).heap.size = w.heap.size + 1 := by simp
    refine ⟨H.below bb, (op_new w o 32).blk (b2.block _ (by omega)), ?_, ((MFr.refl D V w).below bb).mw, ⟨H.off (Nat.le_refl _), H.off (by omega)⟩, Nat.le_trans hbw bb.size⟩
    rw [← hs]
    exact RowR.new _ _
  unfold opV
  go_enter Tryz.func21, Tryz.ntmps21
  go_upto_region 1 with fail
  generalize hW0 : World.alloc (w.alloc (.cells #[.int .u8 o.kd, .int .i64 o.a, .int .i64 o.b, .int .i64 o.c, .int .u64 o.x, .int .u64 o.y] 32)) (.cells #[.int .i64 0, .int .i64 0, .int .i64 0, .int .u64 0, .bool false, .int .i64 0, .int .i64 0, .int .u32 0, .int .u64 0, .int .u64 0, .int .u64 0, .int .u64 0, .int .u64 0, .int .u64 0, .slice none 0 0] 43) = wc at *
  clear hW0
  obtain ⟨H1, OP, R4, Mw, o45, hbs⟩ := hF
  have OP' := OP
  obtain ⟨g0, g1, g2, g3, g4, g5⟩ := OP'
  have hcall := mbroadcast_any (o := o) H1 hbs K.bl
  unfold opV at hcall
  go_wp2_with fail
  refine hcall.mono ?_
  rintro e w5 ⟨V5, z, co, m5, rfl, hsp, H5, F5⟩
  have HS := hideIt hsp
  clear hsp
  have R5 := R4.blk (F5.keep o45.2 R4.lt n5D)
  have hs43 := R5.store rfl (cs := (resCs z co (-1) 0 false msg0 none 0 0)) rfl (resCs_one _ _ _ _ _ _ _ _ _)
  have o5 := F5.off o45.2 R4.lt
  have HQ := hideIt (And.intro H5 F5)
  clear hcall H5 F5
  go_wp2_with (first | (refine wpList_store_row rfl (.tmp 4) (.tmp 38) 43 rfl ⟨(w.heap.size + 1), 0, none⟩ (.agg (resCs z co (-1) 0 false msg0 none 0 0)) rfl rfl hs43 ?_) | go_in)
  refine bodyPost_ret (v := .agg (resCs z co (-1) 0 false msg0 none 0 0)) (results_cell_row rfl _ _ (w.heap.size + 1) 43 _ (0, 0) _ rfl R5.row Tryz.underlying43 rfl sz43) rfl ⟨V5, ⟨z, co, -1, 0, false, msg0, []⟩, none, 0, 0, _, rfl, .inl ⟨rfl, rfl⟩, mods_k5 HK.out ⟨z, co, rfl, HS.out⟩, HQ.out.1.otherRow n5D o5, ((Mw.then HQ.out.2).row (by omega)).fr⟩
set_option maxRecDepth 20000 in
set_option maxHeartbeats 8000000 in
theorem mstep_6 {w : World} {D base : Nat} {V : Nat → Value} {m : Mdl} {o : OpS} (H : MdlAt w D base V m) (hbw : base ≤ w.heap.size) (K : MOk m) (ho : o.ok) (hkd : o.kd = 6) :
    Calls Tryz.prog 21 #[.pointer (some ⟨D, 0, none⟩), opV o] w fun e w' => ∃ V' a p n c m', e = .returned (.agg (resCs a.z a.co a.tk a.tm a.hm a.mm p n c)) ∧ FrAt w' w.heap.size (.slice p n c) a.fs ∧ ModS m o a m' ∧ MdlAt w' D base V' m' ∧ MFr D V V' w w' := by
  have q0 : ((o.kd : Int) == 0) = false := beq_eq_false_iff_ne.2 (by omega)
  have q1 : ((o.kd : Int) == 1) = false := beq_eq_false_iff_ne.2 (by omega)
  have q2 : ((o.kd : Int) == 2) = false := beq_eq_false_iff_ne.2 (by omega)
  have q3 : ((o.kd : Int) == 3) = false := beq_eq_false_iff_ne.2 (by omega)
  have q4 : ((o.kd : Int) == 4) = false := beq_eq_false_iff_ne.2 (by omega)
  have q5 : ((o.kd : Int) == 5) = false := beq_eq_false_iff_ne.2 (by omega)
  have q6 : ((o.kd : Int) == 6) = true := beq_iff_eq.2 (by omega)
  have HK := hideIt hkd
  clear hkd
  have hDl := H.dlt
  have n4D : w.heap.size ≠ D := by omega
  have n5D : (w.heap.size + 1) ≠ D := by omega
  have hF : MdlAt (World.alloc (w.alloc (.cells #[.int .u8 o.kd, .int .i64 o.a, .int .i64 o.b, .int .i64 o.c, .int .u64 o.x, .int .u64 o.y] 32)) (.cells #[.int .i64 0, .int .i64 0, .int .i64 0, .int .u64 0, .bool false, .int .i64 0, .int .i64 0, .int .u32 0, .int .u64 0, .int .u64 0, .int .u64 0, .int .u64 0, .int .u64 0, .int .u64 0, .slice none 0 0] 43)) D base V m ∧ OpAt (World.alloc (w.alloc (.cells #[.int .u8 o.kd, .int .i64 o.a, .int .i64 o.b, .int .i64 o.c, .int .u64 o.x, .int .u64 o.y] 32)) (.cells #[.int .i64 0, .int .i64 0, .int .i64 0, .int .u64 0, .bool false, .int .i64 0, .int .i64 0, .int .u32 0, .int .u64 0, .int .u64 0, .int .u64 0, .int .u64 0, .int .u64 0, .int .u64 0, .slice none 0 0] 43)) w.heap.size o ∧ RowR (World.alloc (w.alloc (.cells #[.int .u8 o.kd, .int .i64 o.a, .int .i64 o.b, .int .i64 o.c, .int .u64 o.x, .int .u64 o.y] 32)) (.cells #[.int .i64 0, .int .i64 0, .int .i64 0, .int .u64 0, .bool false, .int .i64 0, .int .i64 0, .int .u32 0, .int .u64 0, .int .u64 0, .int .u64 0, .int .u64 0, .int .u64 0, .int .u64 0, .slice none 0 0] 43)) (w.heap.size + 1) #[.int .i64 0, .int .i64 0, .int .i64 0, .int .u64 0, .bool false, .int .i64 0, .int .i64 0, .int .u32 0, .int .u64 0, .int .u64 0, .int .u64 0, .int .u64 0, .int .u64 0, .int .u64 0, .slice none 0 0] ∧ MW D V V w (World.alloc (w.alloc (.cells #[.int .u8 o.kd, .int .i64 o.a, .int .i64 o.b, .int .i64 o.c, .int .u64 o.x, .int .u64 o.y] 32)) (.cells #[.int .i64 0, .int .i64 0, .int .i64 0, .int .u64 0, .bool false, .int .i64 0, .int .i64 0, .int .u32 0, .int .u64 0, .int .u64 0, .int .u64 0, .int .u64 0, .int .u64 0, .int .u64 0, .slice none 0 0] 43)) ∧ (Off V w.heap.size ∧ Off V (w.heap.size + 1)) ∧ base ≤ (World.alloc (w.alloc (.cells #[.int .u8 o.kd, .int .i64 o.a, .int .i64 o.b, .int .i64 o.c, .int .u64 o.x, .int .u64 o.y] 32)) (.cells #[.int .i64 0, .int .i64 0, .int .i64 0, .int .u64 0, .bool false, .int .i64 0, .int .i64 0, .int .u32 0, .int .u64 0, .int .u64 0, .int .u64 0, .int .u64 0, .int .u64 0, .int .u64 0, .slice none 0 0] 43)).heap.size := by
    have b1 := one_alloc w (.cells #[.int .u8 o.kd, .int .i64 o.a, .int .i64 o.b, .int .i64 o.c, .int .u64 o.x, .int .u64 o.y] 32)
    have b2 := one_alloc (w.alloc (.cells #[.int .u8 o.kd, .int .i64 o.a, .int .i64 o.b, .int .i64 o.c, .int .u64 o.x, .int .u64 o.y] 32)) (.cells #[.int .i64 0, .int .i64 0, .int .i64 0, .int .u64 0, .bool false, .int .i64 0, .int .i64 0, .int .u32 0, .int .u64 0, .int .u64 0, .int .u64 0, .int .u64 0, .int .u64 0, .int .u64 0, .slice none 0 0] 43)
    have bb := b1.trans (b2.mono b1.size)
    have hs : (w.alloc (.cells #[.int .u8 o.kd, .int .i64 o.a, .int .i64 o.b, .int .i64 o.c, .int .u64 o.x, .int .u64 o.y] 32)).heap.size = w.heap.size + 1 := by simp
    refine ⟨H.below bb, (op_new w o 32).blk (b2.block _ (by omega)), ?_, ((MFr.refl D V w).below bb).mw, ⟨H.off (Nat.le_refl _), H.off (by omega)⟩, Nat.le_trans hbw bb.size⟩
    rw [← hs]
    exact RowR.new _ _
  unfold opV
  go_enter Tryz.func21, Tryz.ntmps21
  go_upto_region 1 with fail
  generalize hW0 : World.alloc (w.alloc (.cells #[.int .u8 o.kd, .int .i64 o.a, .int .i64 o.b, .int .i64 o.c, .int .u64 o.x, .int .u64 o.y] 32)) (.cells #[.int .i64 0, .int .i64 0, .int .i64 0, .int .u64 0, .bool false, .int .i64 0, .int .i64 0, .int .u32 0, .int .u64 0, .int .u64 0, .int .u64 0, .int .u64 0, .int .u64 0, .int .u64 0, .slice none 0 0] 43) = wc at *
  clear hW0
  obtain ⟨H1, OP, R4, Mw, o45, hbs⟩ := hF
  have OP' := OP
  obtain ⟨g0, g1, g2, g3, g4, g5⟩ := OP'
  have hcall := marm_any (cc := o.a) (d := (o.x : Int)) (ck := (o.y : Int)) H1 hbs (by have := K.tl; omega)
  go_wp2_with fail
  refine hcall.mono ?_
  rintro e w5 ⟨V5, z, co, tm, m5, rfl, hsp, H5, F5⟩
  have HS := hideIt hsp
  clear hsp
  have R5 := R4.blk (F5.keep o45.2 R4.lt n5D)
  have hs43 := R5.store rfl (cs := (resCs z co (-1) tm false msg0 none 0 0)) rfl (resCs_one _ _ _ _ _ _ _ _ _)
  have o5 := F5.off o45.2 R4.lt
  have HQ := hideIt (And.intro H5 F5)
  clear hcall H5 F5
  go_wp2_with (first | (refine wpList_store_row rfl (.tmp 4) (.tmp 48) 43 rfl ⟨(w.heap.size + 1), 0, none⟩ (.agg (resCs z co (-1) tm false msg0 none 0 0)) rfl rfl hs43 ?_) | go_in)
  refine bodyPost_ret (v := .agg (resCs z co (-1) tm false msg0 none 0 0)) (results_cell_row rfl _ _ (w.heap.size + 1) 43 _ (0, 0) _ rfl R5.row Tryz.underlying43 rfl sz43) rfl ⟨V5, ⟨z, co, -1, tm, false, msg0, []⟩, none, 0, 0, _, rfl, .inl ⟨rfl, rfl⟩, mods_k6 HK.out ⟨z, co, tm, rfl, HS.out⟩, HQ.out.1.otherRow n5D o5, ((Mw.then HQ.out.2).row (by omega)).fr⟩
set_option maxRecDepth 20000 in
set_option maxHeartbeats 8000000 in
theorem mstep_7 {w : World} {D base : Nat} {V : Nat → Value} {m : Mdl} {o : OpS} (H : MdlAt w D base V m) (hbw : base ≤ w.heap.size) (K : MOk m) (ho : o.ok) (hkd : o.kd = 7) :
    Calls Tryz.prog 21 #[.pointer (some ⟨D, 0, none⟩), opV o] w fun e w' => ∃ V' a p n c m', e = .returned (.agg (resCs a.z a.co a.tk a.tm a.hm a.mm p n c)) ∧ FrAt w' w.heap.size (.slice p n c) a.fs ∧ ModS m o a m' ∧ MdlAt w' D base V' m' ∧ MFr D V V' w w' := by
  have q0 : ((o.kd : Int) == 0) = false := beq_eq_false_iff_ne.2 (by omega)
  have q1 : ((o.kd : Int) == 1) = false := beq_eq_false_iff_ne.2 (by omega)
  have q2 : ((o.kd : Int) == 2) = false := beq_eq_false_iff_ne.2 (by omega)
  have q3 : ((o.kd : Int) == 3) = false := beq_eq_false_iff_ne.2 (by omega)
  have q4 : ((o.kd : Int) == 4) = false := beq_eq_false_iff_ne.2 (by omega)
  have q5 : ((o.kd : Int) == 5) = false := beq_eq_false_iff_ne.2 (by omega)
  have q6 : ((o.kd : Int) == 6) = false := beq_eq_false_iff_ne.2 (by omega)
  have q7 : ((o.kd : Int) == 7) = true := beq_iff_eq.2 (by omega)
  have HK := hideIt hkd
  clear hkd
  have hDl := H.dlt
  have n4D : w.heap.size ≠ D := by omega
  have n5D : (w.heap.size + 1) ≠ D := by omega
  have hF : MdlAt (World.alloc (w.alloc (.cells #[.int .u8 o.kd, .int .i64 o.a, .int .i64 o.b, .int .i64 o.c, .int .u64 o.x, .int .u64 o.y] 32)) (.cells #[.int .i64 0, .int .i64 0, .int .i64 0, .int .u64 0, .bool false, .int .i64 0, .int .i64 0, .int .u32 0, .int .u64 0, .int .u64 0, .int .u64 0, .int .u64 0, .int .u64 0, .int .u64 0, .slice none 0 0] 43)) D base V m ∧ OpAt (World.alloc (w.alloc (.cells #[.int .u8 o.kd, .int .i64 o.a, .int .i64 o.b, .int .i64 o.c, .int .u64 o.x, .int .u64 o.y] 32)) (.cells #[.int .i64 0, .int .i64 0, .int .i64 0, .int .u64 0, .bool false, .int .i64 0, .int .i64 0, .int .u32 0, .int .u64 0, .int .u64 0, .int .u64 0, .int .u64 0, .int .u64 0, .int .u64 0, .slice none 0 0] 43)) w.heap.size o ∧ RowR (World.alloc (w.alloc (.cells #[.int .u8 o.kd, .int .i64 o.a, .int .i64 o.b, .int .i64 o.c, .int .u64 o.x, .int .u64 o.y] 32)) (.cells #[.int .i64 0, .int .i64 0, .int .i64 0, .int .u64 0, .bool false, .int .i64 0, .int .i64 0, .int .u32 0, .int .u64 0, .int .u64 0, .int .u64 0, .int .u64 0, .int .u64 0, .int .u64 0, .slice none 0 0] 43)) (w.heap.size + 1) #[.int .i64 0, .int .i64 0, .int .i64 0, .int .u64 0, .bool false, .int .i64 0, .int .i64 0, .int .u32 0, .int .u64 0, .int .u64 0, .int .u64 0, .int .u64 0, .int .u64 0, .int .u64 0, .slice none 0 0] ∧ MW D V V w (World.alloc (w.alloc (.cells #[.int .u8 o.kd, .int .i64 o.a, .int .i64 o.b, .int .i64 o.c, .int .u64 o.x, .int .u64 o.y] 32)) (.cells #[.int .i64 0, .int .i64 0, .int .i64 0, .int .u64 0, .bool false, .int .i64 0, .int .i64 0, .int .u32 0, .int .u64 0, .int .u64 0, .int .u64 0, .int .u64 0, .int .u64 0, .int .u64 0, .slice none 0 0] 43)) ∧ (Off V w.heap.size ∧ Off V (w.heap.size + 1)) ∧ base ≤ (World.alloc (w.alloc (.cells #[.int .u8 o.kd, .int .i64 o.a, .int .i64 o.b, .int .i64 o.c, .int .u64 o.x, .int .u64 o.y] 32)) (.cells #[.int .i64 0, .int .i64 0, .int .i64 0, .int .u64 0, .bool false, .int .i64 0, .int .i64 0, .int .u32 0, .int .u64 0, .int .u64 0, .int .u64 0, .int .u64 0, .int .u64 0, .int .u64 0, .slice none 0 0] 43)).heap.size := by
    have b1 := one_alloc w (.cells #[.int .u8 o.kd, .int .i64 o.a, .int .i64 o.b, .int .i64 o.c, .int .u64 o.x, .int .u64 o.y] 32)
    have b2 := one_alloc (w.alloc (.cells #[.int .u8 o.kd, .int .i64 o.a, .int .i64 o.b, .int .i64 o.c, .int .u64 o.x, .int .u64 o.y] 32)) (.cells #[.int .i64 0, .int .i64 0, .int .i64 0, .int .u64 0, .bool false, .int .i64 0, .int .i64 0, .int .u32 0, .int .u64 0, .int .u64 0, .int .u64 0, .int .u64 0, .int .u64 0, .int .u64 0, .slice none 0 0] 43)
    have bb := b1.trans (b2.mono b1.size)
    have hs : (w.alloc (.cells #[.int .u8 o.kd, .int .i64 o.a, .int .i64 o.b, .int .i64 o.c, .int .u64 o.x, .int .u64 o.y] 32)).heap.size = w.heap.size + 1 := by simp
    refine ⟨H.below bb, (op_new w o 32).blk (b2.block _ (by omega)), ?_, ((MFr.refl D V w).below bb).mw, ⟨H.off (Nat.le_refl _), H.off (by omega)⟩, Nat.le_trans hbw bb.size⟩
    rw [← hs]
    exact RowR.new _ _
  unfold opV
  go_enter Tryz.func21, Tryz.ntmps21
  go_upto_region 1 with fail
  generalize hW0 : World.alloc (w.alloc (.cells #[.int .u8 o.kd, .int .i64 o.a, .int .i64 o.b, .int .i64 o.c, .int .u64 o.x, .int .u64 o.y] 32)) (.cells #[.int .i64 0, .int .i64 0, .int .i64 0, .int .u64 0, .bool false, .int .i64 0, .int .i64 0, .int .u32 0, .int .u64 0, .int .u64 0, .int .u64 0, .int .u64 0, .int .u64 0, .int .u64 0, .slice none 0 0] 43) = wc at *
  clear hW0
  obtain ⟨H1, OP, R4, Mw, o45, hbs⟩ := hF
  have OP' := OP
  obtain ⟨g0, g1, g2, g3, g4, g5⟩ := OP'
  have x0 := H1.nowc
  have hnow := K.nw
  obtain ⟨nw, hnw⟩ : ∃ nw, nw = m.now := ⟨_, rfl⟩
  rw [← hnw] at x0 hnow
  have HNW := hideIt hnw
  clear hnw
  have hp := fun w => plus_any (b := (o.x : Int)) hnow (by have := ho.x; omega) w
  obtain ⟨d, hd⟩ : ∃ d, d = plusI nw o.x := ⟨_, rfl⟩
  rw [← hd] at hp
  have HD := hideIt hd
  clear hd
  have hcall := marm_any (cc := o.a) (d := d) (ck := (o.y : Int)) H1.drew hbs (by have := K.tl; omega)
  go_upto_region 17 with fail
  refine wp_region_held_drew (S := (fun w' => w'.cell? ⟨w.heap.size, 1, none⟩ = some (.int .i64 o.a) ∧ w'.cell? ⟨w.heap.size, 4, none⟩ = some (.int .u64 (o.x : Int)) ∧ w'.cell? ⟨w.heap.size, 5, none⟩ = some (.int .u64 (o.y : Int)) ∧ w'.cell? ⟨D, 0, none⟩ = some (.int .u64 nw))) (by kernel_rfl) ⟨g1, g4, g5, x0⟩ (fun hHeld => ?_)
  refine wpAnyH_take (i := 0) (oi := { dst := some 51, op := Go.Op.move (Go.Operand.tmp 0), type := 26, pos := _, after := #[], guard := none }) (v := ?vv1) rfl (by kernel_rfl) (by kernel_rfl) (by kernel_rfl) (fun _ _ _ h => h) (Or.inl ⟨by rfl, ?hy1⟩) (by assumption) ?tk1
  case hy1 => (intro w hSw; (try dsimp only at hSw); go_simp; (try with_reducible rfl))
  try simp only [Act.put, List.setIfInBounds_toArray, List.set_cons_zero, List.set_cons_succ]
  refine wpAnyH_take (i := 1) (oi := { dst := some 52, op := Go.Op.fieldAddr 32 (Go.Operand.tmp 3) 1, type := 0, pos := _, after := #[], guard := none }) (v := ?vv2) rfl (by kernel_rfl) (by kernel_rfl) (by kernel_rfl) (fun _ _ _ h => h) (Or.inl ⟨by rfl, ?hy2⟩) (by assumption) ?tk2
  case hy2 => (intro w hSw; (try dsimp only at hSw); go_simp; (try with_reducible rfl))
  try simp only [Act.put, List.setIfInBounds_toArray, List.set_cons_zero, List.set_cons_succ]
  refine wpAnyH_take (i := 2) (oi := { dst := some 53, op := Go.Op.load 2 (Go.Operand.tmp 52), type := 2, pos := _, after := #[{ on := 1, ground := Go.Ground.data }], guard := none }) (v := ?vv3) rfl (by kernel_rfl) (by kernel_rfl) (by kernel_rfl) (fun _ _ _ h => h) (Or.inl ⟨by rfl, ?hy3⟩) (by assumption) ?tk3
  case hy3 => (intro w hSw; (try dsimp only at hSw); go_simp; (try with_reducible rfl))
  try simp only [Act.put, List.setIfInBounds_toArray, List.set_cons_zero, List.set_cons_succ]
  refine wpAnyH_take (i := 3) (oi := { dst := some 54, op := Go.Op.move (Go.Operand.tmp 0), type := 26, pos := _, after := #[], guard := none }) (v := ?vv4) rfl (by kernel_rfl) (by kernel_rfl) (by kernel_rfl) (fun _ _ _ h => h) (Or.inl ⟨by rfl, ?hy4⟩) (by assumption) ?tk4
  case hy4 => (intro w hSw; (try dsimp only at hSw); go_simp; (try with_reducible rfl))
  try simp only [Act.put, List.setIfInBounds_toArray, List.set_cons_zero, List.set_cons_succ]
  refine wpAnyH_take (i := 4) (oi := { dst := some 55, op := Go.Op.nilCheck (Go.Operand.tmp 54), type := 0, pos := _, after := #[{ on := 3, ground := Go.Ground.data }], guard := none }) (v := ?vv5) rfl (by kernel_rfl) (by kernel_rfl) (by kernel_rfl) (fun _ _ _ h => h) (Or.inl ⟨by rfl, ?hy5⟩) (by assumption) ?tk5
  case hy5 => (intro w hSw; (try dsimp only at hSw); go_simp; (try with_reducible rfl))
  try simp only [Act.put, List.setIfInBounds_toArray, List.set_cons_zero, List.set_cons_succ]
  refine wpAnyH_take (i := 5) (oi := { dst := some 56, op := Go.Op.fieldAddr 135 (Go.Operand.tmp 55) 0, type := 0, pos := _, after := #[{ on := 4, ground := Go.Ground.data }], guard := none }) (v := ?vv6) rfl (by kernel_rfl) (by kernel_rfl) (by kernel_rfl) (fun _ _ _ h => h) (Or.inl ⟨by rfl, ?hy6⟩) (by assumption) ?tk6
  case hy6 => (intro w hSw; (try dsimp only at hSw); go_simp; (try with_reducible rfl))
  try simp only [Act.put, List.setIfInBounds_toArray, List.set_cons_zero, List.set_cons_succ]
  refine wpAnyH_take (i := 6) (oi := { dst := some 57, op := Go.Op.load 29 (Go.Operand.tmp 56), type := 29, pos := _, after := #[{ on := 5, ground := Go.Ground.data }], guard := none }) (v := ?vv7) rfl (by kernel_rfl) (by kernel_rfl) (by kernel_rfl) (fun _ _ _ h => h) (Or.inl ⟨by rfl, ?hy7⟩) (by assumption) ?tk7
  case hy7 => (intro w hSw; (try dsimp only at hSw); go_simp; (try with_reducible rfl))
  try simp only [Act.put, List.setIfInBounds_toArray, List.set_cons_zero, List.set_cons_succ]
  refine wpAnyH_take (i := 7) (oi := { dst := some 58, op := Go.Op.fieldAddr 32 (Go.Operand.tmp 3) 4, type := 0, pos := _, after := #[], guard := none }) (v := ?vv8) rfl (by kernel_rfl) (by kernel_rfl) (by kernel_rfl) (fun _ _ _ h => h) (Or.inl ⟨by rfl, ?hy8⟩) (by assumption) ?tk8
  case hy8 => (intro w hSw; (try dsimp only at hSw); go_simp; (try with_reducible rfl))
  try simp only [Act.put, List.setIfInBounds_toArray, List.set_cons_zero, List.set_cons_succ]
  refine wpAnyH_take (i := 8) (oi := { dst := some 59, op := Go.Op.load 28 (Go.Operand.tmp 58), type := 28, pos := _, after := #[{ on := 7, ground := Go.Ground.data }], guard := none }) (v := ?vv9) rfl (by kernel_rfl) (by kernel_rfl) (by kernel_rfl) (fun _ _ _ h => h) (Or.inl ⟨by rfl, ?hy9⟩) (by assumption) ?tk9
  case hy9 => (intro w hSw; (try dsimp only at hSw); go_simp; (try with_reducible rfl))
  try simp only [Act.put, List.setIfInBounds_toArray, List.set_cons_zero, List.set_cons_succ]
  refine wpAnyH_take (i := 10) (oi := { dst := some 61, op := Go.Op.fieldAddr 32 (Go.Operand.tmp 3) 5, type := 0, pos := _, after := #[], guard := none }) (v := ?vv10) rfl (by kernel_rfl) (by kernel_rfl) (by kernel_rfl) (fun _ _ _ h => h) (Or.inl ⟨by rfl, ?hy10⟩) (by assumption) ?tk10
  case hy10 => (intro w hSw; (try dsimp only at hSw); go_simp; (try with_reducible rfl))
  try simp only [Act.put, List.setIfInBounds_toArray, List.set_cons_zero, List.set_cons_succ]
  refine wpAnyH_take (i := 11) (oi := { dst := some 62, op := Go.Op.load 28 (Go.Operand.tmp 61), type := 28, pos := _, after := #[{ on := 10, ground := Go.Ground.data }], guard := none }) (v := ?vv11) rfl (by kernel_rfl) (by kernel_rfl) (by kernel_rfl) (fun _ _ _ h => h) (Or.inl ⟨by rfl, ?hy11⟩) (by assumption) ?tk11
  case hy11 => (intro w hSw; (try dsimp only at hSw); go_simp; (try with_reducible rfl))
  try simp only [Act.put, List.setIfInBounds_toArray, List.set_cons_zero, List.set_cons_succ]
  refine wpAnyH_ready (rs := [9]) (by kernel_rfl) (by simp) ?_
  refine AllReadyH.cons (o := { dst := some 60, op := Go.Op.call { callee := Go.Callee.value (Go.Operand.func 80), args := #[Go.Operand.tmp 57, Go.Operand.tmp 59], argTypes := #[29, 28] }, type := 29, pos := _, after := #[{ on := 6, ground := Go.Ground.data }, { on := 8, ground := Go.Ground.data }], guard := none }) rfl (fun K' hK' => ?_) AllReadyH.nil
  go_simp
  go_at_call 80
  refine (hp _).mono ?_
  rintro e w3 ⟨rfl, rfl⟩
  have k0 := hHeld
  clear hHeld
  refine hK'.out _ _ k0 (fun hHeld => ?_)
  clear hK' K'
  try simp only [Act.put, List.setIfInBounds_toArray, List.set_cons_zero, List.set_cons_succ]
  refine wpAnyH_ready (rs := [12]) (by kernel_rfl) (by simp) ?_
  refine AllReadyH.cons (o := { dst := some 63, op := Go.Op.call { callee := Go.Callee.value (Go.Operand.func 79), args := #[Go.Operand.tmp 51, Go.Operand.tmp 53, Go.Operand.tmp 60, Go.Operand.tmp 62], argTypes := #[26, 2, 29, 28] }, type := 43, pos := _, after := #[{ on := 0, ground := Go.Ground.data }, { on := 2, ground := Go.Ground.data }, { on := 9, ground := Go.Ground.data }, { on := 11, ground := Go.Ground.data }, { on := 9, ground := Go.Ground.chain }], guard := none }) rfl (fun K' hK' => ?_) AllReadyH.nil
  go_simp
  go_at_call 79
  refine hcall.mono ?_
  rintro e w5 ⟨V5, z, co, tm, m5, rfl, hsp, H5, F5⟩
  have R5 := (R4.blk (w' := World.drew wc) rfl).blk (F5.keep o45.2 R4.lt n5D)
  have O5 := (OP.blk (w' := World.drew wc) rfl).blk (F5.keep o45.1 OP.lt n4D)
  have o5 := F5.off o45.2 R4.lt
  have x5 := H5.nowc
  rw [armM_now hsp, ← HNW.out] at x5
  have HQ := hideIt (And.intro H5 (And.intro F5 hsp))
  clear H5 F5 hsp hcall
  obtain ⟨t0, t1, t2, t3, t4, t5⟩ := O5
  clear hHeld
  refine hK'.out _ _ ⟨t1, t4, t5, x5⟩ (fun hHeld => ?_)
  clear hK' K'
  try simp only [Act.put, List.setIfInBounds_toArray, List.set_cons_zero, List.set_cons_succ]
  refine wpAnyH_ready (rs := [13]) (by kernel_rfl) (by simp) ?_
  refine AllReadyH.cons (o := { dst := none, op := Go.Op.store 43 (Go.Operand.tmp 4) (Go.Operand.tmp 63), type := 0, pos := _, after := #[{ on := 12, ground := Go.Ground.data }, { on := 12, ground := Go.Ground.chain }, { on := 0, ground := Go.Ground.phase }, { on := 1, ground := Go.Ground.phase }, { on := 2, ground := Go.Ground.phase }, { on := 3, ground := Go.Ground.phase }, { on := 4, ground := Go.Ground.phase }, { on := 5, ground := Go.Ground.phase }, { on := 6, ground := Go.Ground.phase }, { on := 7, ground := Go.Ground.phase }, { on := 8, ground := Go.Ground.phase }, { on := 9, ground := Go.Ground.phase }, { on := 10, ground := Go.Ground.phase }, { on := 11, ground := Go.Ground.phase }, { on := 12, ground := Go.Ground.phase }], guard := none }) rfl (fun K' hK' => ?_) AllReadyH.nil
  refine wp_store_row 43 (.tmp 4) (.tmp 63) rfl (w.heap.size + 1) (resCs z co (-1) tm false msg0 none 0 0) rfl rfl 43 _ R5 sz43 rfl (resCs_one _ _ _ _ _ _ _ _ _) ?_
  have far : ∀ q, q ≠ (w.heap.size + 1) → (w5.setRow (w.heap.size + 1) (resCs z co (-1) tm false msg0 none 0 0)).heap[q]? = w5.heap[q]? := fun q hq => setRow_far hq
  clear hHeld
  refine hK'.out _ _ ⟨(World.cell?_of_block (a := ⟨w.heap.size, 1, none⟩) (far w.heap.size (by omega))).trans t1, (World.cell?_of_block (a := ⟨w.heap.size, 4, none⟩) (far w.heap.size (by omega))).trans t4, (World.cell?_of_block (a := ⟨w.heap.size, 5, none⟩) (far w.heap.size (by omega))).trans t5, (World.cell?_of_block (a := ⟨D, 0, none⟩) (far D (by omega))).trans x5⟩ (fun hHeld => ?_)
  clear hK' K'
  try simp only [Act.put, List.setIfInBounds_toArray, List.set_cons_zero, List.set_cons_succ]
  refine wpAnyH_done (by kernel_rfl) ?_ _
  go_wp2
  obtain ⟨H5, F5, hsp⟩ := HQ.out
  refine bodyPost_ret (v := .agg (resCs z co (-1) tm false msg0 none 0 0)) (results_cell_row rfl _ _ (w.heap.size + 1) 43 _ (0, 0) _ rfl R5.row Tryz.underlying43 rfl sz43) rfl ⟨V5, ⟨z, co, -1, tm, false, msg0, []⟩, none, 0, 0, _, rfl, .inl ⟨rfl, rfl⟩, mods_k7 HK.out ⟨z, co, tm, rfl, by rw [← HNW.out, ← HD.out]; exact hsp⟩, H5.otherRow n5D o5, (((Mw.below (below_dr (Below.refl _ _))).then F5).row (by omega)).fr⟩
end Go.Proofs.Qxb6500877aGreatDoor
