import Derived.Deep.CutBlock
import Derived.OwnWalk
import Derived.Maps.AppendAt
import Derived.Test.Qxb6500877aGreatDoorAr
set_option linter.unusedVariables false
set_option linter.unusedSimpArgs false
namespace Go.Proofs.Qxb6500877aGreatDoor
open Go.RowKit

def KindM (m : Mdl) (o : OpS) (t c : Nat) (z co tk : Int) (m' : Mdl) : Prop :=
  (o.kd = 11 ∧ z = 0 ∧ co = c ∧ tk = t ∧ m' = (m.leave t c).setTk t (0, -1, 0)) ∨
  (o.kd = 12 ∧ (((m.tk t).1 ≠ 1 ∧ z = 13 ∧ co = -1 ∧ tk = -1 ∧ m' = m) ∨ ((m.tk t).1 = 1 ∧ z = 0 ∧ co = c ∧ tk = t ∧ m' = m.join t c))) ∨
  (o.kd = 13 ∧ (((m.tk t).1 = 1 ∧ z = 13 ∧ co = -1 ∧ tk = -1 ∧ m' = m) ∨ ((m.tk t).1 ≠ 1 ∧ z = 0 ∧ co = c ∧ tk = t ∧ m' = (m.leave t c).setTk t (1, (m.tk t).2.1, (m.tk t).2.2)))) ∨
  (o.kd = 14 ∧ (((m.tk t).1 ≠ 3 ∧ z = 13 ∧ co = -1 ∧ tk = -1 ∧ m' = m) ∨ ((m.tk t).1 = 3 ∧ z = 0 ∧ co = c ∧ tk = t ∧ m' = m.join t c))) ∨
  (o.kd = 15 ∧ ((¬ (0 ≤ o.b ∧ o.b < 4) ∧ z = 4 ∧ co = -1 ∧ tk = -1 ∧ m' = m) ∨ ∃ d : Nat, d < 4 ∧ o.b = d ∧ z = 0 ∧ co = d ∧ tk = t ∧ ((d = c ∧ m' = m) ∨ (d ≠ c ∧ (((m.tk t).1 = 1 ∧ m' = (m.leave t c).setTk t ((m.tk t).1, (d : Int), (m.tk t).2.2)) ∨ ((m.tk t).1 ≠ 1 ∧ m' = ((m.leave t c).setTk t ((m.tk t).1, (d : Int), (m.tk t).2.2)).join t d)))))) ∨
  (o.kd = 16 ∧ ((¬ (0 ≤ o.c ∧ o.c < 4) ∧ z = 6 ∧ co = -1 ∧ tk = -1 ∧ m' = m) ∨ ((0 ≤ o.c ∧ o.c < 4) ∧ z = 0 ∧ co = c ∧ tk = t ∧ ((o.c = (m.tk t).2.2 ∧ m' = m) ∨ (o.c ≠ (m.tk t).2.2 ∧ (((m.tk t).1 = 2 ∧ m' = ((m.setTk t ((m.tk t).1, (m.tk t).2.1, o.c)).leave t c).join t c) ∨ ((m.tk t).1 ≠ 2 ∧ m' = m.setTk t ((m.tk t).1, (m.tk t).2.1, o.c))))))))
/-- A task operation, in the model. -/
def OnM (m : Mdl) (o : OpS) (z co tk : Int) (m' : Mdl) : Prop :=
  (¬ (0 ≤ o.a ∧ o.a < 16) ∧ z = 5 ∧ co = -1 ∧ tk = -1 ∧ m' = m) ∨ ∃ t : Nat, o.a = t ∧ t < 16 ∧ (((m.tk t).1 = 0 ∧ z = 12 ∧ co = -1 ∧ tk = -1 ∧ m' = m) ∨ ((m.tk t).1 ≠ 0 ∧ ∃ c : Nat, c < 4 ∧ (m.tk t).2.1 = c ∧ KindM m o t c z co tk m'))
set_option maxRecDepth 20000 in
set_option maxHeartbeats 16000000 in
theorem mtask_any {w : World} {D base : Nat} {V : Nat → Value} {m : Mdl} {o : OpS} (H : MdlAt w D base V m) (hbw : base ≤ w.heap.size) (hw : ∀ c, c < 4 → (m.wt c).length ≤ 800) (hh : ∀ t, t < 16 → (m.tk t).1 ≠ 0 → ∃ c : Nat, c < 4 ∧ (m.tk t).2.1 = c) (hk : 11 ≤ o.kd ∧ o.kd ≤ 16) :
    Calls Tryz.prog 84 #[.pointer (some ⟨D, 0, none⟩), opV o] w fun e w' => ∃ V' z co tk m', e = .returned (.agg (resCs z co tk 0 false msg0 none 0 0)) ∧ OnM m o z co tk m' ∧ MdlAt w' D base V' m' ∧ MFr D V V' w w' := by
  have hDl := H.dlt
  have n4D : w.heap.size ≠ D := by omega
  have n5D : (w.heap.size + 1) ≠ D := by omega
  have hF : MdlAt (World.alloc (w.alloc (.cells #[.int .u8 o.kd, .int .i64 o.a, .int .i64 o.b, .int .i64 o.c, .int .u64 o.x, .int .u64 o.y] 32)) (.cells #[.int .i64 0, .int .i64 0, .int .i64 0, .int .u64 0, .bool false, .int .i64 0, .int .i64 0, .int .u32 0, .int .u64 0, .int .u64 0, .int .u64 0, .int .u64 0, .int .u64 0, .int .u64 0, .slice none 0 0] 43)) D base V m ∧ OpAt (World.alloc (w.alloc (.cells #[.int .u8 o.kd, .int .i64 o.a, .int .i64 o.b, .int .i64 o.c, .int .u64 o.x, .int .u64 o.y] 32)) (.cells #[.int .i64 0, .int .i64 0, .int .i64 0, .int .u64 0, .bool false, .int .i64 0, .int .i64 0, .int .u32 0, .int .u64 0, .int .u64 0, .int .u64 0, .int .u64 0, .int .u64 0, .int .u64 0, .slice none 0 0] 43)) w.heap.size o ∧ RowR (World.alloc (w.alloc (.cells #[.int .u8 o.kd, .int .i64 o.a, .int .i64 o.b, .int .i64 o.c, .int .u64 o.x, .int .u64 o.y] 32)) (.cells #[.int .i64 0, .int .i64 0, .int .i64 0, .int .u64 0, .bool false, .int .i64 0, .int .i64 0, .int .u32 0, .int .u64 0, .int .u64 0, .int .u64 0, .int .u64 0, .int .u64 0, .int .u64 0, .slice none 0 0] 43)) (w.heap.size + 1) #[.int .i64 0, .int .i64 0, .int .i64 0, .int .u64 0, .bool false, .int .i64 0, .int .i64 0, .int .u32 0, .int .u64 0, .int .u64 0, .int .u64 0, .int .u64 0, .int .u64 0, .int .u64 0, .slice none 0 0] ∧ MW D V V w (World.alloc (w.alloc (.cells #[.int .u8 o.kd, .int .i64 o.a, .int .i64 o.b, .int .i64 o.c, .int .u64 o.x, .int .u64 o.y] 32)) (.cells #[.int .i64 0, .int .i64 0, .int .i64 0, .int .u64 0, .bool false, .int .i64 0, .int .i64 0, .int .u32 0, .int .u64 0, .int .u64 0, .int .u64 0, .int .u64 0, .int .u64 0, .int .u64 0, .slice none 0 0] 43)) ∧ (Off V w.heap.size ∧ Off V (w.heap.size + 1)) ∧ base ≤ (World.alloc (w.alloc (.cells #[.int .u8 o.kd, .int .i64 o.a, .int .i64 o.b, .int .i64 o.c, .int .u64 o.x, .int .u64 o.y] 32)) (.cells #[.int .i64 0, .int .i64 0, .int .i64 0, .int .u64 0, .bool false, .int .i64 0, .int .i64 0, .int .u32 0, .int .u64 0, .int .u64 0, .int .u64 0, .int .u64 0, .int .u64 0, .int .u64 0, .slice none 0 0] 43)).heap.size := by
    have b1 := one_alloc w (.cells #[.int .u8 o.kd, .int .i64 o.a, .int .i64 o.b, .int .i64 o.c, .int .u64 o.x, .int .u64 o.y] 32)
    have b2 := one_alloc (w.alloc (.cells #[.int .u8 o.kd, .int .i64 o.a, .int .i64 o.b, .int .i64 o.c, .int .u64 o.x, .int .u64 o.y] 32)) (.cells #[.int .i64 0, .int .i64 0, .int .i64 0, .int .u64 0, .bool false, .int .i64 0, .int .i64 0, .int .u32 0, .int .u64 0, .int .u64 0, .int .u64 0, .int .u64 0, .int .u64 0, .int .u64 0, .slice none 0 0] 43)
    have bb := b1.trans (b2.mono b1.size)
    have hs : (w.alloc (.cells #[.int .u8 o.kd, .int .i64 o.a, .int .i64 o.b, .int .i64 o.c, .int .u64 o.x, .int .u64 o.y] 32)).heap.size = w.heap.size + 1 := by simp
    refine ⟨H.below bb, (op_new w o 32).blk (b2.block _ (by omega)), ?_, ((MFr.refl D V w).below bb).mw, ⟨H.off (Nat.le_refl _), H.off (by omega)⟩, Nat.le_trans hbw bb.size⟩
    rw [← hs]
    exact RowR.new _ _
  unfold opV
  go_enter Tryz.func84, Tryz.ntmps84
  go_upto_region 1 with fail
  generalize hW0 : World.alloc (w.alloc (.cells #[.int .u8 o.kd, .int .i64 o.a, .int .i64 o.b, .int .i64 o.c, .int .u64 o.x, .int .u64 o.y] 32)) (.cells #[.int .i64 0, .int .i64 0, .int .i64 0, .int .u64 0, .bool false, .int .i64 0, .int .i64 0, .int .u32 0, .int .u64 0, .int .u64 0, .int .u64 0, .int .u64 0, .int .u64 0, .int .u64 0, .slice none 0 0] 43) = wc at *
  clear hW0
  obtain ⟨H1, OP, R4, Mw, o45, hbs⟩ := hF
  have OP' := OP
  obtain ⟨g0, g1, g2, g3, g4, g5⟩ := OP'
  by_cases ha : 0 ≤ o.a ∧ o.a < 16
  · have hca := fun w => isTaskM_any o.a w
    rw [decide_eq_true ha] at hca
    obtain ⟨t, et⟩ : ∃ t : Nat, o.a = t := ⟨o.a.toNat, by omega⟩
    rw [et] at g1 hca
    have ht : t < 16 := by omega
    have t0 : (0 : Int) ≤ t := by omega
    have t1 : (t : Int) < 16 := by omega
    have HT := hideIt et
    clear et ha
    obtain ⟨s0, s1, s2⟩ := H1.task ht
    obtain ⟨st, hst⟩ : ∃ st, st = (m.tk t).1 := ⟨_, rfl⟩
    rw [← hst] at s0
    have HST := hideIt hst
    clear hst
    by_cases hs : st = 0
    · have es : (st == 0) = true := by simp [hs]
      have HS : Hid ((m.tk t).1 = 0) := hideIt (by rw [← HST.out]; exact hs)
      clear hs
      go_wp2_with fail
      refine (hca _).mono ?_
      rintro e wc ⟨rfl, rfl⟩
      have han := answer_r 12 wc
      go_wp2_with fail
      refine han.mono ?_
      rintro e w5 ⟨rfl, hb5⟩
      have R5 := R4.blk (hb5.block _ R4.lt)
      have hs43 := R5.store rfl (cs := (resCs 12 (-1) (-1) 0 false msg0 none 0 0)) rfl (resCs_one _ _ _ _ _ _ _ _ _)
      have HB5 := hideIt hb5
      clear han hb5
      go_wp2_with (first | (refine wpList_store_row rfl (.tmp 4) (.tmp 25) 43 rfl ⟨(w.heap.size + 1), 0, none⟩ (.agg (resCs 12 (-1) (-1) 0 false msg0 none 0 0)) rfl rfl hs43 ?_) | go_in)
      have H5 := (H1.below HB5.out).otherRow (b := (w.heap.size + 1)) (cs := (resCs 12 (-1) (-1) 0 false msg0 none 0 0)) n5D o45.2
      have M5 := (Mw.below HB5.out).row (b := (w.heap.size + 1)) (cs := (resCs 12 (-1) (-1) 0 false msg0 none 0 0)) (by omega)
      refine bodyPost_ret (v := .agg (resCs 12 (-1) (-1) 0 false msg0 none 0 0)) (results_cell_row rfl _ _ (w.heap.size + 1) 43 _ (0, 0) _ rfl R5.row Tryz.underlying43 rfl sz43) rfl ⟨V, 12, -1, -1, m, rfl, .inr ⟨t, HT.out, ht, .inl ⟨HS.out, rfl, rfl, rfl, rfl⟩⟩, H5, M5.fr⟩
    have es : (st == 0) = false := by simp [hs]
    have HS : Hid ((m.tk t).1 ≠ 0) := hideIt (by rw [← HST.out]; exact hs)
    clear hs
    obtain ⟨c, hc, eh⟩ := hh t ht HS.out
    rw [eh] at s1
    have HE := hideIt eh
    clear eh
    go_wp2_with fail
    refine (hca _).mono ?_
    rintro e wc ⟨rfl, rfl⟩
    clear hca
    have hl5 := R4.lt
    have hl6 := OP.lt
    have HQ := hideIt (And.intro H1 (And.intro R4 (And.intro Mw (And.intro o45 (And.intro OP hbs)))))
    clear H1 R4 Mw OP o45 hbs
    go_upto_region 7 with fail
    clear g0 g1 g2 g3 g4 g5
    go_cut [7] from 20 to 26 (fun a7 wd => ∃ b7 : Nat, a7 = .pointer (some ⟨b7, 0, none⟩) ∧ (w.heap.size + 1) < b7 ∧ MdlAt wd D base V m ∧ OpAt wd w.heap.size o ∧ RowR wd b7 (resCs 0 (-1) (-1) 0 false msg0 none 0 0) ∧ RowR wd (w.heap.size + 1) #[.int .i64 0, .int .i64 0, .int .i64 0, .int .u64 0, .bool false, .int .i64 0, .int .i64 0, .int .u32 0, .int .u64 0, .int .u64 0, .int .u64 0, .int .u64 0, .int .u64 0, .int .u64 0, .slice none 0 0] ∧ MW D V V w wd ∧ (Off V w.heap.size ∧ Off V (w.heap.size + 1)) ∧ Off V b7 ∧ base ≤ wd.heap.size)
    case first =>
      go_wp2_with fail
      refine (answer_any 0 _).mono ?_
      rintro e w6 ⟨rfl, hb6⟩
      have hs6 := hb6.size
      have HB6 := hideIt hb6
      clear hb6 s0 s1 s2
      unfold resV
      go_wp2
      go_meet
      case rel =>
        obtain ⟨H5, R5, M5, o5, O5, b5⟩ := HQ.out
        have b1 := one_alloc w6 (.cells (resCs 0 (-1) (-1) 0 false msg0 none 0 0) 43)
        have bb := HB6.out.trans (b1.mono hs6)
        exact ⟨w6.heap.size, rfl, by omega, H5.below bb, O5.blk (bb.block _ hl6), RowR.new w6 _, R5.blk (bb.block _ hl5), M5.below bb, o5, H5.off (by omega), Nat.le_trans b5 bb.size⟩
    case rest =>
    clear HQ hl5 hl6 s0 s1 s2
    obtain ⟨b7, rfl, h75, hcut⟩ := hcut
    obtain ⟨H1, OP, R7, R4, Mw, o45, o7, hbs⟩ := hcut
    have n7D : b7 ≠ D := by omega
    have q1 := R7.cell (j := 1) rfl
    have q2 := R7.cell (j := 2) rfl
    have fz7 := R7.fz
    have s1 := (H1.task ht).2.1
    rw [HE.out] at s1
    go_upto_region 8 with fail
    go_cut [] (fun wd => MdlAt wd D base V m ∧ OpAt wd w.heap.size o ∧ RowR wd b7 (resCs 0 (c : Int) (t : Int) 0 false msg0 none 0 0) ∧ RowR wd (w.heap.size + 1) #[.int .i64 0, .int .i64 0, .int .i64 0, .int .u64 0, .bool false, .int .i64 0, .int .i64 0, .int .u32 0, .int .u64 0, .int .u64 0, .int .u64 0, .int .u64 0, .int .u64 0, .int .u64 0, .slice none 0 0] ∧ MW D V V w wd ∧ (Off V w.heap.size ∧ Off V (w.heap.size + 1)) ∧ Off V b7 ∧ base ≤ wd.heap.size)
    case first =>
      go_wp2
      go_meet
      case rel => exact ⟨(H1.other n7D o7).other n7D o7, OP.blk ((far_set (show w.heap.size ≠ b7 by omega)).trans (far_set (show w.heap.size ≠ b7 by omega))), R7.set.set, R4.blk ((far_set (show (w.heap.size + 1) ≠ b7 by omega)).trans (far_set (show (w.heap.size + 1) ≠ b7 by omega))), (Mw.set (by omega)).set (by omega), o45, o7, by simpa using hbs⟩
    case rest =>
    clear H1 OP R7 R4 Mw o45 o7 hbs q1 q2 fz7 s1
    obtain ⟨H1, OP, R7, R4, Mw, o45, o7, hbs⟩ := hcut
    have eh := HE.out
    by_cases hkd : o.kd = 11
    · clear eh
      have eh := HE.out
      have g0 : wc.cell? ⟨w.heap.size, 0, none⟩ = some (.int .u8 11) := by rw [OP.c0, hkd]; rfl
      have HKD := hideIt hkd
      clear hkd
      have hca := leave_any H1 ht hc eh (by have := hw c hc; omega)
      go_wp2_with fail
      refine hca.mono ?_
      rintro e wc ⟨V2, rfl, H2, F2⟩
      have hF : MdlAt wc D base V2 (m.leave t c) ∧ OpAt wc w.heap.size o ∧ RowR wc b7 (resCs 0 (c : Int) (t : Int) 0 false msg0 none 0 0) ∧ RowR wc (w.heap.size + 1) #[.int .i64 0, .int .i64 0, .int .i64 0, .int .u64 0, .bool false, .int .i64 0, .int .i64 0, .int .u32 0, .int .u64 0, .int .u64 0, .int .u64 0, .int .u64 0, .int .u64 0, .int .u64 0, .slice none 0 0] ∧ MW D V V2 w wc ∧ (Off V2 w.heap.size ∧ Off V2 (w.heap.size + 1)) ∧ Off V2 b7 ∧ base ≤ wc.heap.size := ⟨H2, OP.blk (F2.keep o45.1 OP.lt n4D), R7.blk (F2.keep o7 R7.lt n7D), R4.blk (F2.keep o45.2 R4.lt n5D), Mw.then F2, ⟨F2.off o45.1 OP.lt, F2.off o45.2 R4.lt⟩, F2.off o7 R7.lt, Nat.le_trans hbs F2.size⟩
      clear H1 OP R7 R4 Mw o45 o7 hbs hca H2 F2
      obtain ⟨H1, OP, R7, R4, Mw, o45, o7, hbs⟩ := hF
      obtain ⟨s0, s1, s2⟩ := H1.task ht
      have fz := H1.fz
      generalize ((m.leave t c).tk t).1 = y0 at s0
      generalize ((m.leave t c).tk t).2.1 = y1 at s1
      generalize ((m.leave t c).tk t).2.2 = y2 at s2
      go_upto_region 45 with fail
      obtain ⟨H8, F8⟩ := H1.putTask ht 0 (-1) 0
      have hF : MdlAt (((wc.setCell ⟨D, 1 + t * 3, none⟩ (.int .u8 0)).setCell ⟨D, 1 + t * 3 + 1, none⟩ (.int .i64 (-1))).setCell ⟨D, 1 + t * 3 + 2, none⟩ (.int .i64 0)) D base V2 ((m.leave t c).setTk t (0, -1, 0)) ∧ OpAt (((wc.setCell ⟨D, 1 + t * 3, none⟩ (.int .u8 0)).setCell ⟨D, 1 + t * 3 + 1, none⟩ (.int .i64 (-1))).setCell ⟨D, 1 + t * 3 + 2, none⟩ (.int .i64 0)) w.heap.size o ∧ RowR (((wc.setCell ⟨D, 1 + t * 3, none⟩ (.int .u8 0)).setCell ⟨D, 1 + t * 3 + 1, none⟩ (.int .i64 (-1))).setCell ⟨D, 1 + t * 3 + 2, none⟩ (.int .i64 0)) b7 (resCs 0 (c : Int) (t : Int) 0 false msg0 none 0 0) ∧ RowR (((wc.setCell ⟨D, 1 + t * 3, none⟩ (.int .u8 0)).setCell ⟨D, 1 + t * 3 + 1, none⟩ (.int .i64 (-1))).setCell ⟨D, 1 + t * 3 + 2, none⟩ (.int .i64 0)) (w.heap.size + 1) #[.int .i64 0, .int .i64 0, .int .i64 0, .int .u64 0, .bool false, .int .i64 0, .int .i64 0, .int .u32 0, .int .u64 0, .int .u64 0, .int .u64 0, .int .u64 0, .int .u64 0, .int .u64 0, .slice none 0 0] ∧ MW D V V2 w (((wc.setCell ⟨D, 1 + t * 3, none⟩ (.int .u8 0)).setCell ⟨D, 1 + t * 3 + 1, none⟩ (.int .i64 (-1))).setCell ⟨D, 1 + t * 3 + 2, none⟩ (.int .i64 0)) ∧ (Off V2 w.heap.size ∧ Off V2 (w.heap.size + 1)) ∧ Off V2 b7 ∧ base ≤ (((wc.setCell ⟨D, 1 + t * 3, none⟩ (.int .u8 0)).setCell ⟨D, 1 + t * 3 + 1, none⟩ (.int .i64 (-1))).setCell ⟨D, 1 + t * 3 + 2, none⟩ (.int .i64 0)).heap.size := ⟨H8, OP.blk (F8.keep o45.1 OP.lt n4D), R7.blk (F8.keep o7 R7.lt n7D), R4.blk (F8.keep o45.2 R4.lt n5D), Mw.then F8, o45, o7, Nat.le_trans hbs F8.size⟩
      clear H1 OP R7 R4 Mw o45 o7 hbs s0 s1 s2 fz H8 F8
      generalize (((wc.setCell ⟨D, 1 + t * 3, none⟩ (.int .u8 0)).setCell ⟨D, 1 + t * 3 + 1, none⟩ (.int .i64 (-1))).setCell ⟨D, 1 + t * 3 + 2, none⟩ (.int .i64 0)) = wc at *
      obtain ⟨H1, OP, R7, R4, Mw, o45, o7, hbs⟩ := hF
      have hl43 := R7.load rfl
      have hs43 := R4.store rfl (cs := (resCs 0 (c : Int) (t : Int) 0 false msg0 none 0 0)) rfl (resCs_one _ _ _ _ _ _ _ _ _)
      go_upto_region 45 with fail
      go_wp2_with (first | (refine wpList_load_row rfl (.tmp 7) 43 rfl ⟨b7, 0, none⟩ (.agg (resCs 0 (c : Int) (t : Int) 0 false msg0 none 0 0)) rfl hl43 ?_) | (refine wpList_store_row rfl (.tmp 4) (.tmp 145) 43 rfl ⟨(w.heap.size + 1), 0, none⟩ (.agg (resCs 0 (c : Int) (t : Int) 0 false msg0 none 0 0)) rfl rfl hs43 ?_) | go_in)
      refine bodyPost_ret (v := .agg (resCs 0 (c : Int) (t : Int) 0 false msg0 none 0 0)) (results_cell_row rfl _ _ (w.heap.size + 1) 43 _ (0, 0) _ rfl R4.row Tryz.underlying43 rfl sz43) rfl ⟨V2, 0, c, t, _, rfl, .inr ⟨t, HT.out, ht, .inr ⟨HS.out, c, hc, eh, .inl ⟨HKD.out, rfl, rfl, rfl, rfl⟩⟩⟩, H1.otherRow n5D o45.2, (Mw.row (by omega)).fr⟩
    by_cases hkd : o.kd = 12
    · clear eh
      have eh := HE.out
      have g0 : wc.cell? ⟨w.heap.size, 0, none⟩ = some (.int .u8 12) := by rw [OP.c0, hkd]; rfl
      have HKD := hideIt hkd
      clear hkd
      have s0 := (H1.task ht).1
      rw [← HST.out] at s0
      by_cases hz : st = 1
      · have ez : (st != 1) = false := by simp [hz]
        have HZ : Hid ((m.tk t).1 = 1) := hideIt (by rw [← HST.out]; exact hz)
        clear hz
        have hca := join_any H1 hbs ht hc eh (by have := hw c hc; omega)
        go_wp2_with fail
        refine hca.mono ?_
        rintro e wc ⟨V2, rfl, H2, F2⟩
        have hF : MdlAt wc D base V2 (m.join t c) ∧ OpAt wc w.heap.size o ∧ RowR wc b7 (resCs 0 (c : Int) (t : Int) 0 false msg0 none 0 0) ∧ RowR wc (w.heap.size + 1) #[.int .i64 0, .int .i64 0, .int .i64 0, .int .u64 0, .bool false, .int .i64 0, .int .i64 0, .int .u32 0, .int .u64 0, .int .u64 0, .int .u64 0, .int .u64 0, .int .u64 0, .int .u64 0, .slice none 0 0] ∧ MW D V V2 w wc ∧ (Off V2 w.heap.size ∧ Off V2 (w.heap.size + 1)) ∧ Off V2 b7 ∧ base ≤ wc.heap.size := ⟨H2, OP.blk (F2.keep o45.1 OP.lt n4D), R7.blk (F2.keep o7 R7.lt n7D), R4.blk (F2.keep o45.2 R4.lt n5D), Mw.then F2, ⟨F2.off o45.1 OP.lt, F2.off o45.2 R4.lt⟩, F2.off o7 R7.lt, Nat.le_trans hbs F2.size⟩
        clear H1 OP R7 R4 Mw o45 o7 hbs hca H2 F2
        obtain ⟨H1, OP, R7, R4, Mw, o45, o7, hbs⟩ := hF
        have hl43 := R7.load rfl
        have hs43 := R4.store rfl (cs := (resCs 0 (c : Int) (t : Int) 0 false msg0 none 0 0)) rfl (resCs_one _ _ _ _ _ _ _ _ _)
        go_upto_region 45 with fail
        go_wp2_with (first | (refine wpList_load_row rfl (.tmp 7) 43 rfl ⟨b7, 0, none⟩ (.agg (resCs 0 (c : Int) (t : Int) 0 false msg0 none 0 0)) rfl hl43 ?_) | (refine wpList_store_row rfl (.tmp 4) (.tmp 145) 43 rfl ⟨(w.heap.size + 1), 0, none⟩ (.agg (resCs 0 (c : Int) (t : Int) 0 false msg0 none 0 0)) rfl rfl hs43 ?_) | go_in)
        refine bodyPost_ret (v := .agg (resCs 0 (c : Int) (t : Int) 0 false msg0 none 0 0)) (results_cell_row rfl _ _ (w.heap.size + 1) 43 _ (0, 0) _ rfl R4.row Tryz.underlying43 rfl sz43) rfl ⟨V2, 0, c, t, _, rfl, .inr ⟨t, HT.out, ht, .inr ⟨HS.out, c, hc, eh, .inr (.inl ⟨HKD.out, .inr ⟨HZ.out, rfl, rfl, rfl, rfl⟩⟩)⟩⟩, H1.otherRow n5D o45.2, (Mw.row (by omega)).fr⟩
      · have ez : (st != 1) = true := by simp [hz]
        have HZ : Hid ((m.tk t).1 ≠ 1) := hideIt (by rw [← HST.out]; exact hz)
        clear hz
        have han := answer_r 13 wc
        go_wp2_with fail
        refine han.mono ?_
        rintro e w5 ⟨rfl, hb5⟩
        have R5 := R4.blk (hb5.block _ R4.lt)
        have hs43 := R5.store rfl (cs := (resCs 13 (-1) (-1) 0 false msg0 none 0 0)) rfl (resCs_one _ _ _ _ _ _ _ _ _)
        have HB5 := hideIt hb5
        clear han hb5
        go_wp2_with (first | (refine wpList_store_row rfl (.tmp 4) (.tmp 51) 43 rfl ⟨(w.heap.size + 1), 0, none⟩ (.agg (resCs 13 (-1) (-1) 0 false msg0 none 0 0)) rfl rfl hs43 ?_) | go_in)
        have H5 := (H1.below HB5.out).otherRow (b := (w.heap.size + 1)) (cs := (resCs 13 (-1) (-1) 0 false msg0 none 0 0)) n5D o45.2
        have M5 := (Mw.below HB5.out).row (b := (w.heap.size + 1)) (cs := (resCs 13 (-1) (-1) 0 false msg0 none 0 0)) (by omega)
        refine bodyPost_ret (v := .agg (resCs 13 (-1) (-1) 0 false msg0 none 0 0)) (results_cell_row rfl _ _ (w.heap.size + 1) 43 _ (0, 0) _ rfl R5.row Tryz.underlying43 rfl sz43) rfl ⟨V, 13, -1, -1, m, rfl, .inr ⟨t, HT.out, ht, .inr ⟨HS.out, c, hc, eh, .inr (.inl ⟨HKD.out, .inl ⟨HZ.out, rfl, rfl, rfl, rfl⟩⟩)⟩⟩, H5, M5.fr⟩
    by_cases hkd : o.kd = 13
    · clear eh
      have eh := HE.out
      have g0 : wc.cell? ⟨w.heap.size, 0, none⟩ = some (.int .u8 13) := by rw [OP.c0, hkd]; rfl
      have HKD := hideIt hkd
      clear hkd
      have s0 := (H1.task ht).1
      rw [← HST.out] at s0
      by_cases hz : st = 1
      · have ez : (st == 1) = true := by simp [hz]
        have HZ : Hid ((m.tk t).1 = 1) := hideIt (by rw [← HST.out]; exact hz)
        clear hz
        have han := answer_r 13 wc
        go_wp2_with fail
        refine han.mono ?_
        rintro e w5 ⟨rfl, hb5⟩
        have R5 := R4.blk (hb5.block _ R4.lt)
        have hs43 := R5.store rfl (cs := (resCs 13 (-1) (-1) 0 false msg0 none 0 0)) rfl (resCs_one _ _ _ _ _ _ _ _ _)
        have HB5 := hideIt hb5
        clear han hb5
        go_wp2_with (first | (refine wpList_store_row rfl (.tmp 4) (.tmp 62) 43 rfl ⟨(w.heap.size + 1), 0, none⟩ (.agg (resCs 13 (-1) (-1) 0 false msg0 none 0 0)) rfl rfl hs43 ?_) | go_in)
        have H5 := (H1.below HB5.out).otherRow (b := (w.heap.size + 1)) (cs := (resCs 13 (-1) (-1) 0 false msg0 none 0 0)) n5D o45.2
        have M5 := (Mw.below HB5.out).row (b := (w.heap.size + 1)) (cs := (resCs 13 (-1) (-1) 0 false msg0 none 0 0)) (by omega)
        refine bodyPost_ret (v := .agg (resCs 13 (-1) (-1) 0 false msg0 none 0 0)) (results_cell_row rfl _ _ (w.heap.size + 1) 43 _ (0, 0) _ rfl R5.row Tryz.underlying43 rfl sz43) rfl ⟨V, 13, -1, -1, m, rfl, .inr ⟨t, HT.out, ht, .inr ⟨HS.out, c, hc, eh, .inr (.inr (.inl ⟨HKD.out, .inl ⟨HZ.out, rfl, rfl, rfl, rfl⟩⟩))⟩⟩, H5, M5.fr⟩
      · have ez : (st == 1) = false := by simp [hz]
        have HZ : Hid ((m.tk t).1 ≠ 1) := hideIt (by rw [← HST.out]; exact hz)
        clear hz
        have hca := leave_any H1 ht hc eh (by have := hw c hc; omega)
        go_wp2_with fail
        refine hca.mono ?_
        rintro e wc ⟨V2, rfl, H2, F2⟩
        have hF : MdlAt wc D base V2 (m.leave t c) ∧ OpAt wc w.heap.size o ∧ RowR wc b7 (resCs 0 (c : Int) (t : Int) 0 false msg0 none 0 0) ∧ RowR wc (w.heap.size + 1) #[.int .i64 0, .int .i64 0, .int .i64 0, .int .u64 0, .bool false, .int .i64 0, .int .i64 0, .int .u32 0, .int .u64 0, .int .u64 0, .int .u64 0, .int .u64 0, .int .u64 0, .int .u64 0, .slice none 0 0] ∧ MW D V V2 w wc ∧ (Off V2 w.heap.size ∧ Off V2 (w.heap.size + 1)) ∧ Off V2 b7 ∧ base ≤ wc.heap.size := ⟨H2, OP.blk (F2.keep o45.1 OP.lt n4D), R7.blk (F2.keep o7 R7.lt n7D), R4.blk (F2.keep o45.2 R4.lt n5D), Mw.then F2, ⟨F2.off o45.1 OP.lt, F2.off o45.2 R4.lt⟩, F2.off o7 R7.lt, Nat.le_trans hbs F2.size⟩
        clear H1 OP R7 R4 Mw o45 o7 hbs hca H2 F2
        obtain ⟨H1, OP, R7, R4, Mw, o45, o7, hbs⟩ := hF
        obtain ⟨s0, s1, s2⟩ := H1.task ht
        have fz := H1.fz
        generalize ((m.leave t c).tk t).1 = y0 at s0
        generalize ((m.leave t c).tk t).2.1 = y1 at s1
        generalize ((m.leave t c).tk t).2.2 = y2 at s2
        go_upto_region 45 with fail
        obtain ⟨H8, F8⟩ := H1.putSt ht 1
        have hF : MdlAt (wc.setCell ⟨D, 1 + t * 3, none⟩ (.int .u8 1)) D base V2 ((m.leave t c).setTk t (1, (m.tk t).2.1, (m.tk t).2.2)) ∧ OpAt (wc.setCell ⟨D, 1 + t * 3, none⟩ (.int .u8 1)) w.heap.size o ∧ RowR (wc.setCell ⟨D, 1 + t * 3, none⟩ (.int .u8 1)) b7 (resCs 0 (c : Int) (t : Int) 0 false msg0 none 0 0) ∧ RowR (wc.setCell ⟨D, 1 + t * 3, none⟩ (.int .u8 1)) (w.heap.size + 1) #[.int .i64 0, .int .i64 0, .int .i64 0, .int .u64 0, .bool false, .int .i64 0, .int .i64 0, .int .u32 0, .int .u64 0, .int .u64 0, .int .u64 0, .int .u64 0, .int .u64 0, .int .u64 0, .slice none 0 0] ∧ MW D V V2 w (wc.setCell ⟨D, 1 + t * 3, none⟩ (.int .u8 1)) ∧ (Off V2 w.heap.size ∧ Off V2 (w.heap.size + 1)) ∧ Off V2 b7 ∧ base ≤ (wc.setCell ⟨D, 1 + t * 3, none⟩ (.int .u8 1)).heap.size := ⟨H8, OP.blk (F8.keep o45.1 OP.lt n4D), R7.blk (F8.keep o7 R7.lt n7D), R4.blk (F8.keep o45.2 R4.lt n5D), Mw.then F8, o45, o7, Nat.le_trans hbs F8.size⟩
        clear H1 OP R7 R4 Mw o45 o7 hbs s0 s1 s2 fz H8 F8
        generalize (wc.setCell ⟨D, 1 + t * 3, none⟩ (.int .u8 1)) = wc at *
        obtain ⟨H1, OP, R7, R4, Mw, o45, o7, hbs⟩ := hF
        have hl43 := R7.load rfl
        have hs43 := R4.store rfl (cs := (resCs 0 (c : Int) (t : Int) 0 false msg0 none 0 0)) rfl (resCs_one _ _ _ _ _ _ _ _ _)
        go_upto_region 45 with fail
        go_wp2_with (first | (refine wpList_load_row rfl (.tmp 7) 43 rfl ⟨b7, 0, none⟩ (.agg (resCs 0 (c : Int) (t : Int) 0 false msg0 none 0 0)) rfl hl43 ?_) | (refine wpList_store_row rfl (.tmp 4) (.tmp 145) 43 rfl ⟨(w.heap.size + 1), 0, none⟩ (.agg (resCs 0 (c : Int) (t : Int) 0 false msg0 none 0 0)) rfl rfl hs43 ?_) | go_in)
        refine bodyPost_ret (v := .agg (resCs 0 (c : Int) (t : Int) 0 false msg0 none 0 0)) (results_cell_row rfl _ _ (w.heap.size + 1) 43 _ (0, 0) _ rfl R4.row Tryz.underlying43 rfl sz43) rfl ⟨V2, 0, c, t, _, rfl, .inr ⟨t, HT.out, ht, .inr ⟨HS.out, c, hc, eh, .inr (.inr (.inl ⟨HKD.out, .inr ⟨HZ.out, rfl, rfl, rfl, rfl⟩⟩))⟩⟩, H1.otherRow n5D o45.2, (Mw.row (by omega)).fr⟩
    by_cases hkd : o.kd = 14
    · clear eh
      have eh := HE.out
      have g0 : wc.cell? ⟨w.heap.size, 0, none⟩ = some (.int .u8 14) := by rw [OP.c0, hkd]; rfl
      have HKD := hideIt hkd
      clear hkd
      have s0 := (H1.task ht).1
      rw [← HST.out] at s0
      by_cases hz : st = 3
      · have ez : (st != 3) = false := by simp [hz]
        have HZ : Hid ((m.tk t).1 = 3) := hideIt (by rw [← HST.out]; exact hz)
        clear hz
        have hca := join_any H1 hbs ht hc eh (by have := hw c hc; omega)
        go_wp2_with fail
        refine hca.mono ?_
        rintro e wc ⟨V2, rfl, H2, F2⟩
        have hF : MdlAt wc D base V2 (m.join t c) ∧ OpAt wc w.heap.size o ∧ RowR wc b7 (resCs 0 (c : Int) (t : Int) 0 false msg0 none 0 0) ∧ RowR wc (w.heap.size + 1) #[.int .i64 0, .int .i64 0, .int .i64 0, .int .u64 0, .bool false, .int .i64 0, .int .i64 0, .int .u32 0, .int .u64 0, .int .u64 0, .int .u64 0, .int .u64 0, .int .u64 0, .int .u64 0, .slice none 0 0] ∧ MW D V V2 w wc ∧ (Off V2 w.heap.size ∧ Off V2 (w.heap.size + 1)) ∧ Off V2 b7 ∧ base ≤ wc.heap.size := ⟨H2, OP.blk (F2.keep o45.1 OP.lt n4D), R7.blk (F2.keep o7 R7.lt n7D), R4.blk (F2.keep o45.2 R4.lt n5D), Mw.then F2, ⟨F2.off o45.1 OP.lt, F2.off o45.2 R4.lt⟩, F2.off o7 R7.lt, Nat.le_trans hbs F2.size⟩
        clear H1 OP R7 R4 Mw o45 o7 hbs hca H2 F2
        obtain ⟨H1, OP, R7, R4, Mw, o45, o7, hbs⟩ := hF
        have hl43 := R7.load rfl
        have hs43 := R4.store rfl (cs := (resCs 0 (c : Int) (t : Int) 0 false msg0 none 0 0)) rfl (resCs_one _ _ _ _ _ _ _ _ _)
        go_upto_region 45 with fail
        go_wp2_with (first | (refine wpList_load_row rfl (.tmp 7) 43 rfl ⟨b7, 0, none⟩ (.agg (resCs 0 (c : Int) (t : Int) 0 false msg0 none 0 0)) rfl hl43 ?_) | (refine wpList_store_row rfl (.tmp 4) (.tmp 145) 43 rfl ⟨(w.heap.size + 1), 0, none⟩ (.agg (resCs 0 (c : Int) (t : Int) 0 false msg0 none 0 0)) rfl rfl hs43 ?_) | go_in)
        refine bodyPost_ret (v := .agg (resCs 0 (c : Int) (t : Int) 0 false msg0 none 0 0)) (results_cell_row rfl _ _ (w.heap.size + 1) 43 _ (0, 0) _ rfl R4.row Tryz.underlying43 rfl sz43) rfl ⟨V2, 0, c, t, _, rfl, .inr ⟨t, HT.out, ht, .inr ⟨HS.out, c, hc, eh, .inr (.inr (.inr (.inl ⟨HKD.out, .inr ⟨HZ.out, rfl, rfl, rfl, rfl⟩⟩)))⟩⟩, H1.otherRow n5D o45.2, (Mw.row (by omega)).fr⟩
      · have ez : (st != 3) = true := by simp [hz]
        have HZ : Hid ((m.tk t).1 ≠ 3) := hideIt (by rw [← HST.out]; exact hz)
        clear hz
        have han := answer_r 13 wc
        go_wp2_with fail
        refine han.mono ?_
        rintro e w5 ⟨rfl, hb5⟩
        have R5 := R4.blk (hb5.block _ R4.lt)
        have hs43 := R5.store rfl (cs := (resCs 13 (-1) (-1) 0 false msg0 none 0 0)) rfl (resCs_one _ _ _ _ _ _ _ _ _)
        have HB5 := hideIt hb5
        clear han hb5
        go_wp2_with (first | (refine wpList_store_row rfl (.tmp 4) (.tmp 76) 43 rfl ⟨(w.heap.size + 1), 0, none⟩ (.agg (resCs 13 (-1) (-1) 0 false msg0 none 0 0)) rfl rfl hs43 ?_) | go_in)
        have H5 := (H1.below HB5.out).otherRow (b := (w.heap.size + 1)) (cs := (resCs 13 (-1) (-1) 0 false msg0 none 0 0)) n5D o45.2
        have M5 := (Mw.below HB5.out).row (b := (w.heap.size + 1)) (cs := (resCs 13 (-1) (-1) 0 false msg0 none 0 0)) (by omega)
        refine bodyPost_ret (v := .agg (resCs 13 (-1) (-1) 0 false msg0 none 0 0)) (results_cell_row rfl _ _ (w.heap.size + 1) 43 _ (0, 0) _ rfl R5.row Tryz.underlying43 rfl sz43) rfl ⟨V, 13, -1, -1, m, rfl, .inr ⟨t, HT.out, ht, .inr ⟨HS.out, c, hc, eh, .inr (.inr (.inr (.inl ⟨HKD.out, .inl ⟨HZ.out, rfl, rfl, rfl, rfl⟩⟩)))⟩⟩, H5, M5.fr⟩
    by_cases hkd : o.kd = 15
    · clear eh
      have eh := HE.out
      have g0 : wc.cell? ⟨w.heap.size, 0, none⟩ = some (.int .u8 15) := by rw [OP.c0, hkd]; rfl
      have HKD := hideIt hkd
      clear hkd
      have g2 := OP.c2
      by_cases hb : 0 ≤ o.b ∧ o.b < 4
      · have hcb := fun w => isCore_any o.b w
        rw [decide_eq_true hb] at hcb
        obtain ⟨d, ed⟩ : ∃ d : Nat, o.b = d := ⟨o.b.toNat, by omega⟩
        have hd : d < 4 := by omega
        rw [ed] at g2 hcb
        have HD := hideIt ed
        clear ed hb
        have q1 := R7.cell (j := 1) rfl
        have fz7 := R7.fz
        go_wp2_with fail
        refine (hcb _).mono ?_
        rintro e wc ⟨rfl, rfl⟩
        clear hcb
        go_upto_region 29 with fail
        go_cut [] (fun wd => MdlAt wd D base V m ∧ OpAt wd w.heap.size o ∧ RowR wd b7 (resCs 0 (d : Int) (t : Int) 0 false msg0 none 0 0) ∧ RowR wd (w.heap.size + 1) #[.int .i64 0, .int .i64 0, .int .i64 0, .int .u64 0, .bool false, .int .i64 0, .int .i64 0, .int .u32 0, .int .u64 0, .int .u64 0, .int .u64 0, .int .u64 0, .int .u64 0, .int .u64 0, .slice none 0 0] ∧ MW D V V w wd ∧ (Off V w.heap.size ∧ Off V (w.heap.size + 1)) ∧ Off V b7 ∧ base ≤ wd.heap.size)
        case first =>
          go_wp2
          go_meet
          case rel => exact ⟨H1.other n7D o7, OP.blk (far_set (show w.heap.size ≠ b7 by omega)), R7.set, R4.blk (far_set (show (w.heap.size + 1) ≠ b7 by omega)), Mw.set (by omega), o45, o7, by simpa using hbs⟩
        case rest =>
        clear H1 OP R7 R4 Mw o45 o7 hbs g0 g2 q1 fz7
        obtain ⟨H1, OP, R7, R4, Mw, o45, o7, hbs⟩ := hcut
        have q1 := R7.cell (j := 1) rfl
        have s1 := (H1.task ht).2.1
        rw [eh] at s1
        go_upto_region 30 with fail
        go_region_held3 (fun w' => w'.cell? ⟨b7, 1, none⟩ = some (.int .i64 (d : Int)) ∧ w'.cell? ⟨D, 1 + t * 3 + 1, none⟩ = some (.int .i64 (c : Int))) (exact ⟨q1, s1⟩) (fail)
        have hF : MdlAt wc.drew D base V m ∧ OpAt wc.drew w.heap.size o ∧ RowR wc.drew b7 (resCs 0 (d : Int) (t : Int) 0 false msg0 none 0 0) ∧ RowR wc.drew (w.heap.size + 1) #[.int .i64 0, .int .i64 0, .int .i64 0, .int .u64 0, .bool false, .int .i64 0, .int .i64 0, .int .u32 0, .int .u64 0, .int .u64 0, .int .u64 0, .int .u64 0, .int .u64 0, .int .u64 0, .slice none 0 0] ∧ MW D V V w wc.drew ∧ (Off V w.heap.size ∧ Off V (w.heap.size + 1)) ∧ Off V b7 ∧ base ≤ wc.drew.heap.size := ⟨H1.drew, OP.blk rfl, R7.blk rfl, R4.blk rfl, Mw.below (below_dr (Below.refl _ _)), o45, o7, hbs⟩
        clear H1 OP R7 R4 Mw o45 o7 hbs q1 s1
        generalize wc.drew = wc at *
        obtain ⟨H1, OP, R7, R4, Mw, o45, o7, hbs⟩ := hF
        by_cases hdc : d = c
        · have edc : ((d : Int) == (c : Int)) = true := by simp [hdc]
          have HDC := hideIt hdc
          clear hdc
          have hl43 := R7.load rfl
          have hs43 := R4.store rfl (cs := (resCs 0 (d : Int) (t : Int) 0 false msg0 none 0 0)) rfl (resCs_one _ _ _ _ _ _ _ _ _)
          go_upto_region 31 with fail
          go_wp2_with (first | (refine wpList_load_row rfl (.tmp 7) 43 rfl ⟨b7, 0, none⟩ (.agg (resCs 0 (d : Int) (t : Int) 0 false msg0 none 0 0)) rfl hl43 ?_) | (refine wpList_store_row rfl (.tmp 4) (.tmp 97) 43 rfl ⟨(w.heap.size + 1), 0, none⟩ (.agg (resCs 0 (d : Int) (t : Int) 0 false msg0 none 0 0)) rfl rfl hs43 ?_) | go_in)
          refine bodyPost_ret (v := .agg (resCs 0 (d : Int) (t : Int) 0 false msg0 none 0 0)) (results_cell_row rfl _ _ (w.heap.size + 1) 43 _ (0, 0) _ rfl R4.row Tryz.underlying43 rfl sz43) rfl ⟨V, 0, d, t, _, rfl, .inr ⟨t, HT.out, ht, .inr ⟨HS.out, c, hc, eh, .inr (.inr (.inr (.inr (.inl ⟨HKD.out, .inr ⟨d, hd, HD.out, rfl, rfl, rfl, .inl ⟨HDC.out, rfl⟩⟩⟩))))⟩⟩, H1.otherRow n5D o45.2, (Mw.row (by omega)).fr⟩
        · have edc : ((d : Int) == (c : Int)) = false := by simp; omega
          have HDC := hideIt hdc
          clear hdc
          have hca := leave_any H1 ht hc eh (by have := hw c hc; omega)
          go_wp2_with fail
          refine hca.mono ?_
          rintro e wc ⟨V2, rfl, H2, F2⟩
          have hF : MdlAt wc D base V2 (m.leave t c) ∧ OpAt wc w.heap.size o ∧ RowR wc b7 (resCs 0 (d : Int) (t : Int) 0 false msg0 none 0 0) ∧ RowR wc (w.heap.size + 1) #[.int .i64 0, .int .i64 0, .int .i64 0, .int .u64 0, .bool false, .int .i64 0, .int .i64 0, .int .u32 0, .int .u64 0, .int .u64 0, .int .u64 0, .int .u64 0, .int .u64 0, .int .u64 0, .slice none 0 0] ∧ MW D V V2 w wc ∧ (Off V2 w.heap.size ∧ Off V2 (w.heap.size + 1)) ∧ Off V2 b7 ∧ base ≤ wc.heap.size := ⟨H2, OP.blk (F2.keep o45.1 OP.lt n4D), R7.blk (F2.keep o7 R7.lt n7D), R4.blk (F2.keep o45.2 R4.lt n5D), Mw.then F2, ⟨F2.off o45.1 OP.lt, F2.off o45.2 R4.lt⟩, F2.off o7 R7.lt, Nat.le_trans hbs F2.size⟩
          clear H1 OP R7 R4 Mw o45 o7 hbs hca H2 F2
          obtain ⟨H1, OP, R7, R4, Mw, o45, o7, hbs⟩ := hF
          have s1 := (H1.task ht).2.1
          generalize ((m.leave t c).tk t).2.1 = y1 at s1
          have q1 : wc.cell? ⟨b7, 1, none⟩ = some (.int .i64 (d : Int)) := R7.cell (j := 1) rfl
          have fz := H1.fz
          go_upto_region 33 with fail
          go_cut [] (fun wd => MdlAt wd D base V2 ((m.leave t c).setTk t ((m.tk t).1, (d : Int), (m.tk t).2.2)) ∧ OpAt wd w.heap.size o ∧ RowR wd b7 (resCs 0 (d : Int) (t : Int) 0 false msg0 none 0 0) ∧ RowR wd (w.heap.size + 1) #[.int .i64 0, .int .i64 0, .int .i64 0, .int .u64 0, .bool false, .int .i64 0, .int .i64 0, .int .u32 0, .int .u64 0, .int .u64 0, .int .u64 0, .int .u64 0, .int .u64 0, .int .u64 0, .slice none 0 0] ∧ MW D V V2 w wd ∧ (Off V2 w.heap.size ∧ Off V2 (w.heap.size + 1)) ∧ Off V2 b7 ∧ base ≤ wd.heap.size)
          case first =>
            go_wp2
            go_meet
            case rel =>
              obtain ⟨H8, F8⟩ := H1.putHome ht (d : Int)
              exact ⟨H8, OP.blk (F8.keep o45.1 OP.lt n4D), R7.blk (F8.keep o7 R7.lt n7D), R4.blk (F8.keep o45.2 R4.lt n5D), Mw.then F8, o45, o7, Nat.le_trans hbs F8.size⟩
          case rest =>
          clear H1 OP R7 R4 Mw o45 o7 hbs s1 q1 fz
          obtain ⟨H1, OP, R7, R4, Mw, o45, o7, hbs⟩ := hcut
          have s0 := (H1.task ht).1
          have e0 : (((m.leave t c).setTk t ((m.tk t).1, (d : Int), (m.tk t).2.2)).tk t).1 = st := by rw [HST.out]; show (upd m.tk t _ t).1 = _; rw [upd_same]
          rw [e0] at s0
          clear e0
          obtain ⟨mm, hmm⟩ : ∃ mm, mm = (m.leave t c).setTk t ((m.tk t).1, (d : Int), (m.tk t).2.2) := ⟨_, rfl⟩
          rw [← hmm] at H1
          have HMM := hideIt hmm
          clear hmm
          by_cases hz : st = 1
          · have ez : (st != 1) = false := by simp [hz]
            have HZ : Hid ((m.tk t).1 = 1) := hideIt (by rw [← HST.out]; exact hz)
            clear hz
            have hl43 := R7.load rfl
            have hs43 := R4.store rfl (cs := (resCs 0 (d : Int) (t : Int) 0 false msg0 none 0 0)) rfl (resCs_one _ _ _ _ _ _ _ _ _)
            go_upto_region 45 with fail
            go_wp2_with (first | (refine wpList_load_row rfl (.tmp 7) 43 rfl ⟨b7, 0, none⟩ (.agg (resCs 0 (d : Int) (t : Int) 0 false msg0 none 0 0)) rfl hl43 ?_) | (refine wpList_store_row rfl (.tmp 4) (.tmp 145) 43 rfl ⟨(w.heap.size + 1), 0, none⟩ (.agg (resCs 0 (d : Int) (t : Int) 0 false msg0 none 0 0)) rfl rfl hs43 ?_) | go_in)
            refine bodyPost_ret (v := .agg (resCs 0 (d : Int) (t : Int) 0 false msg0 none 0 0)) (results_cell_row rfl _ _ (w.heap.size + 1) 43 _ (0, 0) _ rfl R4.row Tryz.underlying43 rfl sz43) rfl ⟨V2, 0, d, t, _, rfl, .inr ⟨t, HT.out, ht, .inr ⟨HS.out, c, hc, eh, .inr (.inr (.inr (.inr (.inl ⟨HKD.out, .inr ⟨d, hd, HD.out, rfl, rfl, rfl, .inr ⟨HDC.out, .inl ⟨HZ.out, HMM.out⟩⟩⟩⟩))))⟩⟩, H1.otherRow n5D o45.2, (Mw.row (by omega)).fr⟩
          · have ez : (st != 1) = true := by simp [hz]
            have HZ : Hid ((m.tk t).1 ≠ 1) := hideIt (by rw [← HST.out]; exact hz)
            clear hz
            have ehd : (mm.tk t).2.1 = d := by rw [HMM.out]; show (upd m.tk t _ t).2.1 = _; rw [upd_same]
            have hld : (mm.wt d).length ≤ 1000 := by
              rw [HMM.out]
              show (upd m.wt c ((m.wt c).erase t) d).length ≤ 1000
              have := hw d hd
              rw [upd_other _ _ HDC.out]
              omega
            have hca := join_any H1 hbs ht hd ehd hld
            go_wp2_with fail
            refine hca.mono ?_
            rintro e wc ⟨V3, rfl, H2, F2⟩
            have hF : MdlAt wc D base V3 (mm.join t d) ∧ OpAt wc w.heap.size o ∧ RowR wc b7 (resCs 0 (d : Int) (t : Int) 0 false msg0 none 0 0) ∧ RowR wc (w.heap.size + 1) #[.int .i64 0, .int .i64 0, .int .i64 0, .int .u64 0, .bool false, .int .i64 0, .int .i64 0, .int .u32 0, .int .u64 0, .int .u64 0, .int .u64 0, .int .u64 0, .int .u64 0, .int .u64 0, .slice none 0 0] ∧ MW D V V3 w wc ∧ (Off V3 w.heap.size ∧ Off V3 (w.heap.size + 1)) ∧ Off V3 b7 ∧ base ≤ wc.heap.size := ⟨H2, OP.blk (F2.keep o45.1 OP.lt n4D), R7.blk (F2.keep o7 R7.lt n7D), R4.blk (F2.keep o45.2 R4.lt n5D), Mw.then F2, ⟨F2.off o45.1 OP.lt, F2.off o45.2 R4.lt⟩, F2.off o7 R7.lt, Nat.le_trans hbs F2.size⟩
            clear H1 OP R7 R4 Mw o45 o7 hbs hca H2 F2
            obtain ⟨H1, OP, R7, R4, Mw, o45, o7, hbs⟩ := hF
            have hl43 := R7.load rfl
            have hs43 := R4.store rfl (cs := (resCs 0 (d : Int) (t : Int) 0 false msg0 none 0 0)) rfl (resCs_one _ _ _ _ _ _ _ _ _)
            go_upto_region 45 with fail
            go_wp2_with (first | (refine wpList_load_row rfl (.tmp 7) 43 rfl ⟨b7, 0, none⟩ (.agg (resCs 0 (d : Int) (t : Int) 0 false msg0 none 0 0)) rfl hl43 ?_) | (refine wpList_store_row rfl (.tmp 4) (.tmp 145) 43 rfl ⟨(w.heap.size + 1), 0, none⟩ (.agg (resCs 0 (d : Int) (t : Int) 0 false msg0 none 0 0)) rfl rfl hs43 ?_) | go_in)
            refine bodyPost_ret (v := .agg (resCs 0 (d : Int) (t : Int) 0 false msg0 none 0 0)) (results_cell_row rfl _ _ (w.heap.size + 1) 43 _ (0, 0) _ rfl R4.row Tryz.underlying43 rfl sz43) rfl ⟨V3, 0, d, t, mm.join t d, rfl, .inr ⟨t, HT.out, ht, .inr ⟨HS.out, c, hc, eh, .inr (.inr (.inr (.inr (.inl ⟨HKD.out, .inr ⟨d, hd, HD.out, rfl, rfl, rfl, .inr ⟨HDC.out, .inr ⟨HZ.out, ?_⟩⟩⟩⟩))))⟩⟩, H1.otherRow n5D o45.2, (Mw.row (by omega)).fr⟩
            rw [HMM.out]
      · have hcb := fun w => isCore_any o.b w
        rw [decide_eq_false hb] at hcb
        have HZ := hideIt hb
        clear hb
        go_wp2_with fail
        refine (hcb _).mono ?_
        rintro e wc ⟨rfl, rfl⟩
        have han := answer_r 4 wc
        go_wp2_with fail
        refine han.mono ?_
        rintro e w5 ⟨rfl, hb5⟩
        have R5 := R4.blk (hb5.block _ R4.lt)
        have hs43 := R5.store rfl (cs := (resCs 4 (-1) (-1) 0 false msg0 none 0 0)) rfl (resCs_one _ _ _ _ _ _ _ _ _)
        have HB5 := hideIt hb5
        clear han hb5
        go_wp2_with (first | (refine wpList_store_row rfl (.tmp 4) (.tmp 86) 43 rfl ⟨(w.heap.size + 1), 0, none⟩ (.agg (resCs 4 (-1) (-1) 0 false msg0 none 0 0)) rfl rfl hs43 ?_) | go_in)
        have H5 := (H1.below HB5.out).otherRow (b := (w.heap.size + 1)) (cs := (resCs 4 (-1) (-1) 0 false msg0 none 0 0)) n5D o45.2
        have M5 := (Mw.below HB5.out).row (b := (w.heap.size + 1)) (cs := (resCs 4 (-1) (-1) 0 false msg0 none 0 0)) (by omega)
        refine bodyPost_ret (v := .agg (resCs 4 (-1) (-1) 0 false msg0 none 0 0)) (results_cell_row rfl _ _ (w.heap.size + 1) 43 _ (0, 0) _ rfl R5.row Tryz.underlying43 rfl sz43) rfl ⟨V, 4, -1, -1, m, rfl, .inr ⟨t, HT.out, ht, .inr ⟨HS.out, c, hc, eh, .inr (.inr (.inr (.inr (.inl ⟨HKD.out, .inl ⟨HZ.out, rfl, rfl, rfl, rfl⟩⟩))))⟩⟩, H5, M5.fr⟩
    · have hkd : o.kd = 16 := by omega
      clear eh
      have eh := HE.out
      have g0 : wc.cell? ⟨w.heap.size, 0, none⟩ = some (.int .u8 16) := by rw [OP.c0, hkd]; rfl
      have HKD := hideIt hkd
      clear hkd
      have g3 := OP.c3
      by_cases hb : 0 ≤ o.c ∧ o.c < 4
      · have hcb := fun w => isBandM_any o.c w
        rw [decide_eq_true hb] at hcb
        obtain ⟨oc, eoc⟩ : ∃ oc, oc = o.c := ⟨_, rfl⟩
        rw [← eoc] at g3 hcb
        have HOC := hideIt eoc
        have HB := hideIt hb
        clear hb eoc
        obtain ⟨bd, ebd⟩ : ∃ bd, bd = (m.tk t).2.2 := ⟨_, rfl⟩
        have HBD := hideIt ebd
        clear ebd
        have s2 := (H1.task ht).2.2
        rw [← HBD.out] at s2
        go_wp2_with fail
        refine (hcb _).mono ?_
        rintro e wc ⟨rfl, rfl⟩
        clear hcb
        go_upto_region 39 with fail
        go_region_held3 (fun w' => w'.cell? ⟨w.heap.size, 3, none⟩ = some (.int .i64 oc) ∧ w'.cell? ⟨D, 1 + t * 3 + 2, none⟩ = some (.int .i64 bd)) (exact ⟨g3, s2⟩) (fail)
        have hF : MdlAt wc.drew D base V m ∧ OpAt wc.drew w.heap.size o ∧ RowR wc.drew b7 (resCs 0 (c : Int) (t : Int) 0 false msg0 none 0 0) ∧ RowR wc.drew (w.heap.size + 1) #[.int .i64 0, .int .i64 0, .int .i64 0, .int .u64 0, .bool false, .int .i64 0, .int .i64 0, .int .u32 0, .int .u64 0, .int .u64 0, .int .u64 0, .int .u64 0, .int .u64 0, .int .u64 0, .slice none 0 0] ∧ MW D V V w wc.drew ∧ (Off V w.heap.size ∧ Off V (w.heap.size + 1)) ∧ Off V b7 ∧ base ≤ wc.drew.heap.size := ⟨H1.drew, OP.blk rfl, R7.blk rfl, R4.blk rfl, Mw.below (below_dr (Below.refl _ _)), o45, o7, hbs⟩
        clear H1 OP R7 R4 Mw o45 o7 hbs g0 g3 s2
        generalize wc.drew = wc at *
        obtain ⟨H1, OP, R7, R4, Mw, o45, o7, hbs⟩ := hF
        by_cases hdc : oc = bd
        · have edc : (oc == bd) = true := by simp [hdc]
          have HDC : Hid (o.c = (m.tk t).2.2) := hideIt (by rw [← HOC.out, ← HBD.out]; exact hdc)
          clear hdc
          have hl43 := R7.load rfl
          have hs43 := R4.store rfl (cs := (resCs 0 (c : Int) (t : Int) 0 false msg0 none 0 0)) rfl (resCs_one _ _ _ _ _ _ _ _ _)
          go_upto_region 40 with fail
          go_wp2_with (first | (refine wpList_load_row rfl (.tmp 7) 43 rfl ⟨b7, 0, none⟩ (.agg (resCs 0 (c : Int) (t : Int) 0 false msg0 none 0 0)) rfl hl43 ?_) | (refine wpList_store_row rfl (.tmp 4) (.tmp 128) 43 rfl ⟨(w.heap.size + 1), 0, none⟩ (.agg (resCs 0 (c : Int) (t : Int) 0 false msg0 none 0 0)) rfl rfl hs43 ?_) | go_in)
          refine bodyPost_ret (v := .agg (resCs 0 (c : Int) (t : Int) 0 false msg0 none 0 0)) (results_cell_row rfl _ _ (w.heap.size + 1) 43 _ (0, 0) _ rfl R4.row Tryz.underlying43 rfl sz43) rfl ⟨V, 0, c, t, _, rfl, .inr ⟨t, HT.out, ht, .inr ⟨HS.out, c, hc, eh, .inr (.inr (.inr (.inr (.inr ⟨HKD.out, .inr ⟨HB.out, rfl, rfl, rfl, .inl ⟨HDC.out, rfl⟩⟩⟩))))⟩⟩, H1.otherRow n5D o45.2, (Mw.row (by omega)).fr⟩
        · have edc : (oc == bd) = false := by simp [hdc]
          have HDC : Hid (o.c ≠ (m.tk t).2.2) := hideIt (by rw [← HOC.out, ← HBD.out]; exact hdc)
          clear hdc
          have g3 := OP.c3
          rw [← HOC.out] at g3
          have s2 := (H1.task ht).2.2
          rw [← HBD.out] at s2
          have fz := H1.fz
          go_upto_region 41 with fail
          go_cut [] (fun wd => MdlAt wd D base V (m.setTk t ((m.tk t).1, (m.tk t).2.1, oc)) ∧ OpAt wd w.heap.size o ∧ RowR wd b7 (resCs 0 (c : Int) (t : Int) 0 false msg0 none 0 0) ∧ RowR wd (w.heap.size + 1) #[.int .i64 0, .int .i64 0, .int .i64 0, .int .u64 0, .bool false, .int .i64 0, .int .i64 0, .int .u32 0, .int .u64 0, .int .u64 0, .int .u64 0, .int .u64 0, .int .u64 0, .int .u64 0, .slice none 0 0] ∧ MW D V V w wd ∧ (Off V w.heap.size ∧ Off V (w.heap.size + 1)) ∧ Off V b7 ∧ base ≤ wd.heap.size)
          case first =>
            go_wp2
            go_meet
            case rel =>
              obtain ⟨H8, F8⟩ := H1.putBand ht oc
              exact ⟨H8, OP.blk (F8.keep o45.1 OP.lt n4D), R7.blk (F8.keep o7 R7.lt n7D), R4.blk (F8.keep o45.2 R4.lt n5D), Mw.then F8, o45, o7, Nat.le_trans hbs F8.size⟩
          case rest =>
          clear H1 OP R7 R4 Mw o45 o7 hbs s2 g3 fz
          obtain ⟨H1, OP, R7, R4, Mw, o45, o7, hbs⟩ := hcut
          have s0 := (H1.task ht).1
          have e0 : ((m.setTk t ((m.tk t).1, (m.tk t).2.1, oc)).tk t).1 = st := by rw [HST.out]; show (upd m.tk t _ t).1 = _; rw [upd_same]
          rw [e0] at s0
          clear e0
          obtain ⟨mm, hmm⟩ : ∃ mm, mm = m.setTk t ((m.tk t).1, (m.tk t).2.1, o.c) := ⟨_, rfl⟩
          rw [HOC.out, ← hmm] at H1
          have ehd : (mm.tk t).2.1 = c := by rw [hmm]; show (upd m.tk t _ t).2.1 = _; rw [upd_same]; exact HE.out
          have hwm : mm.wt = m.wt := by rw [hmm]; rfl
          have HMM := hideIt hmm
          clear hmm
          have hl1 : (mm.wt c).length ≤ 1000 := by rw [hwm]; have := hw c hc; omega
          have hl2 : ((mm.leave t c).wt c).length ≤ 1000 := by
            show (upd mm.wt c ((mm.wt c).erase t) c).length ≤ 1000
            rw [upd_same]
            have := List.length_erase_le (a := t) (l := mm.wt c)
            omega
          have HL := hideIt (And.intro hl1 hl2)
          clear hl1 hl2 hwm
          by_cases hz : st = 2
          · have ez : (st == 2) = true := by simp [hz]
            have HZ : Hid ((m.tk t).1 = 2) := hideIt (by rw [← HST.out]; exact hz)
            clear hz
            have hca := leave_any H1 ht hc ehd HL.out.1
            go_wp2_with fail
            refine hca.mono ?_
            rintro e wc ⟨V2, rfl, H2, F2⟩
            have hF : MdlAt wc D base V2 (mm.leave t c) ∧ OpAt wc w.heap.size o ∧ RowR wc b7 (resCs 0 (c : Int) (t : Int) 0 false msg0 none 0 0) ∧ RowR wc (w.heap.size + 1) #[.int .i64 0, .int .i64 0, .int .i64 0, .int .u64 0, .bool false, .int .i64 0, .int .i64 0, .int .u32 0, .int .u64 0, .int .u64 0, .int .u64 0, .int .u64 0, .int .u64 0, .int .u64 0, .slice none 0 0] ∧ MW D V V2 w wc ∧ (Off V2 w.heap.size ∧ Off V2 (w.heap.size + 1)) ∧ Off V2 b7 ∧ base ≤ wc.heap.size := ⟨H2, OP.blk (F2.keep o45.1 OP.lt n4D), R7.blk (F2.keep o7 R7.lt n7D), R4.blk (F2.keep o45.2 R4.lt n5D), Mw.then F2, ⟨F2.off o45.1 OP.lt, F2.off o45.2 R4.lt⟩, F2.off o7 R7.lt, Nat.le_trans hbs F2.size⟩
            clear H1 OP R7 R4 Mw o45 o7 hbs hca H2 F2
            obtain ⟨H1, OP, R7, R4, Mw, o45, o7, hbs⟩ := hF
            have hca := join_any H1 hbs ht hc ehd HL.out.2
            go_wp2_with fail
            refine hca.mono ?_
            rintro e wc ⟨V3, rfl, H2, F2⟩
            have hF : MdlAt wc D base V3 ((mm.leave t c).join t c) ∧ OpAt wc w.heap.size o ∧ RowR wc b7 (resCs 0 (c : Int) (t : Int) 0 false msg0 none 0 0) ∧ RowR wc (w.heap.size + 1) #[.int .i64 0, .int .i64 0, .int .i64 0, .int .u64 0, .bool false, .int .i64 0, .int .i64 0, .int .u32 0, .int .u64 0, .int .u64 0, .int .u64 0, .int .u64 0, .int .u64 0, .int .u64 0, .slice none 0 0] ∧ MW D V V3 w wc ∧ (Off V3 w.heap.size ∧ Off V3 (w.heap.size + 1)) ∧ Off V3 b7 ∧ base ≤ wc.heap.size := ⟨H2, OP.blk (F2.keep o45.1 OP.lt n4D), R7.blk (F2.keep o7 R7.lt n7D), R4.blk (F2.keep o45.2 R4.lt n5D), Mw.then F2, ⟨F2.off o45.1 OP.lt, F2.off o45.2 R4.lt⟩, F2.off o7 R7.lt, Nat.le_trans hbs F2.size⟩
            clear H1 OP R7 R4 Mw o45 o7 hbs hca H2 F2
            obtain ⟨H1, OP, R7, R4, Mw, o45, o7, hbs⟩ := hF
            have hl43 := R7.load rfl
            have hs43 := R4.store rfl (cs := (resCs 0 (c : Int) (t : Int) 0 false msg0 none 0 0)) rfl (resCs_one _ _ _ _ _ _ _ _ _)
            go_upto_region 45 with fail
            go_wp2_with (first | (refine wpList_load_row rfl (.tmp 7) 43 rfl ⟨b7, 0, none⟩ (.agg (resCs 0 (c : Int) (t : Int) 0 false msg0 none 0 0)) rfl hl43 ?_) | (refine wpList_store_row rfl (.tmp 4) (.tmp 145) 43 rfl ⟨(w.heap.size + 1), 0, none⟩ (.agg (resCs 0 (c : Int) (t : Int) 0 false msg0 none 0 0)) rfl rfl hs43 ?_) | go_in)
            refine bodyPost_ret (v := .agg (resCs 0 (c : Int) (t : Int) 0 false msg0 none 0 0)) (results_cell_row rfl _ _ (w.heap.size + 1) 43 _ (0, 0) _ rfl R4.row Tryz.underlying43 rfl sz43) rfl ⟨V3, 0, c, t, (mm.leave t c).join t c, rfl, .inr ⟨t, HT.out, ht, .inr ⟨HS.out, c, hc, eh, .inr (.inr (.inr (.inr (.inr ⟨HKD.out, .inr ⟨HB.out, rfl, rfl, rfl, .inr ⟨HDC.out, .inl ⟨HZ.out, ?_⟩⟩⟩⟩))))⟩⟩, H1.otherRow n5D o45.2, (Mw.row (by omega)).fr⟩
            rw [HMM.out]
          · have ez : (st == 2) = false := by simp [hz]
            have HZ : Hid ((m.tk t).1 ≠ 2) := hideIt (by rw [← HST.out]; exact hz)
            clear hz
            have hl43 := R7.load rfl
            have hs43 := R4.store rfl (cs := (resCs 0 (c : Int) (t : Int) 0 false msg0 none 0 0)) rfl (resCs_one _ _ _ _ _ _ _ _ _)
            go_upto_region 45 with fail
            go_wp2_with (first | (refine wpList_load_row rfl (.tmp 7) 43 rfl ⟨b7, 0, none⟩ (.agg (resCs 0 (c : Int) (t : Int) 0 false msg0 none 0 0)) rfl hl43 ?_) | (refine wpList_store_row rfl (.tmp 4) (.tmp 145) 43 rfl ⟨(w.heap.size + 1), 0, none⟩ (.agg (resCs 0 (c : Int) (t : Int) 0 false msg0 none 0 0)) rfl rfl hs43 ?_) | go_in)
            refine bodyPost_ret (v := .agg (resCs 0 (c : Int) (t : Int) 0 false msg0 none 0 0)) (results_cell_row rfl _ _ (w.heap.size + 1) 43 _ (0, 0) _ rfl R4.row Tryz.underlying43 rfl sz43) rfl ⟨V, 0, c, t, _, rfl, .inr ⟨t, HT.out, ht, .inr ⟨HS.out, c, hc, eh, .inr (.inr (.inr (.inr (.inr ⟨HKD.out, .inr ⟨HB.out, rfl, rfl, rfl, .inr ⟨HDC.out, .inr ⟨HZ.out, HMM.out⟩⟩⟩⟩))))⟩⟩, H1.otherRow n5D o45.2, (Mw.row (by omega)).fr⟩
      · have hcb := fun w => isBandM_any o.c w
        rw [decide_eq_false hb] at hcb
        have HZ := hideIt hb
        clear hb
        go_wp2_with fail
        refine (hcb _).mono ?_
        rintro e wc ⟨rfl, rfl⟩
        have han := answer_r 6 wc
        go_wp2_with fail
        refine han.mono ?_
        rintro e w5 ⟨rfl, hb5⟩
        have R5 := R4.blk (hb5.block _ R4.lt)
        have hs43 := R5.store rfl (cs := (resCs 6 (-1) (-1) 0 false msg0 none 0 0)) rfl (resCs_one _ _ _ _ _ _ _ _ _)
        have HB5 := hideIt hb5
        clear han hb5
        go_wp2_with (first | (refine wpList_store_row rfl (.tmp 4) (.tmp 120) 43 rfl ⟨(w.heap.size + 1), 0, none⟩ (.agg (resCs 6 (-1) (-1) 0 false msg0 none 0 0)) rfl rfl hs43 ?_) | go_in)
        have H5 := (H1.below HB5.out).otherRow (b := (w.heap.size + 1)) (cs := (resCs 6 (-1) (-1) 0 false msg0 none 0 0)) n5D o45.2
        have M5 := (Mw.below HB5.out).row (b := (w.heap.size + 1)) (cs := (resCs 6 (-1) (-1) 0 false msg0 none 0 0)) (by omega)
        refine bodyPost_ret (v := .agg (resCs 6 (-1) (-1) 0 false msg0 none 0 0)) (results_cell_row rfl _ _ (w.heap.size + 1) 43 _ (0, 0) _ rfl R5.row Tryz.underlying43 rfl sz43) rfl ⟨V, 6, -1, -1, m, rfl, .inr ⟨t, HT.out, ht, .inr ⟨HS.out, c, hc, eh, .inr (.inr (.inr (.inr (.inr ⟨HKD.out, .inl ⟨HZ.out, rfl, rfl, rfl, rfl⟩⟩))))⟩⟩, H5, M5.fr⟩
  · have hca := fun w => isTaskM_any o.a w
    rw [decide_eq_false ha] at hca
    have HN := hideIt ha
    clear ha
    go_wp2_with fail
    refine (hca _).mono ?_
    rintro e wc ⟨rfl, rfl⟩
    have han := answer_r 5 wc
    go_wp2_with fail
    refine han.mono ?_
    rintro e w5 ⟨rfl, hb5⟩
    have R5 := R4.blk (hb5.block _ R4.lt)
    have hs43 := R5.store rfl (cs := (resCs 5 (-1) (-1) 0 false msg0 none 0 0)) rfl (resCs_one _ _ _ _ _ _ _ _ _)
    have HB5 := hideIt hb5
    clear han hb5
    go_wp2_with (first | (refine wpList_store_row rfl (.tmp 4) (.tmp 12) 43 rfl ⟨(w.heap.size + 1), 0, none⟩ (.agg (resCs 5 (-1) (-1) 0 false msg0 none 0 0)) rfl rfl hs43 ?_) | go_in)
    have H5 := (H1.below HB5.out).otherRow (b := (w.heap.size + 1)) (cs := (resCs 5 (-1) (-1) 0 false msg0 none 0 0)) n5D o45.2
    have M5 := (Mw.below HB5.out).row (b := (w.heap.size + 1)) (cs := (resCs 5 (-1) (-1) 0 false msg0 none 0 0)) (by omega)
    refine bodyPost_ret (v := .agg (resCs 5 (-1) (-1) 0 false msg0 none 0 0)) (results_cell_row rfl _ _ (w.heap.size + 1) 43 _ (0, 0) _ rfl R5.row Tryz.underlying43 rfl sz43) rfl ⟨V, 5, -1, -1, m, rfl, .inl ⟨HN.out, rfl, rfl, rfl, rfl⟩, H5, M5.fr⟩
end Go.Proofs.Qxb6500877aGreatDoor
