import Derived.Deep.CutBlock
import Derived.OwnWalk
import Derived.Maps.AppendAt
import Derived.Test.Qxb6500877aGreatDoorAq
set_option linter.unusedVariables false
set_option linter.unusedSimpArgs false
namespace Go.Proofs.Qxb6500877aGreatDoor
open Go.RowKit

/-- The lightest core, in the model. -/
def ldM (m : Mdl) (c : Nat) : Int := ((homeN m.tk (c : Int) 16 : Nat) : Int)
/-- An attaching, in the model. -/
def AttM (m : Mdl) (o : OpS) (z co tk : Int) (m' : Mdl) : Prop :=
  (¬ (0 ≤ o.a ∧ o.a < 16) ∧ z = 5 ∧ co = -1 ∧ tk = -1 ∧ m' = m) ∨ ∃ t : Nat, o.a = t ∧ t < 16 ∧ (((m.tk t).1 ≠ 0 ∧ z = 11 ∧ co = -1 ∧ tk = -1 ∧ m' = m) ∨ ((m.tk t).1 = 0 ∧ (((o.b ≠ -1 ∧ ¬ (0 ≤ o.b ∧ o.b < 4)) ∧ z = 4 ∧ co = -1 ∧ tk = -1 ∧ m' = m) ∨ (¬ (o.b ≠ -1 ∧ ¬ (0 ≤ o.b ∧ o.b < 4)) ∧ ((¬ (0 ≤ o.c ∧ o.c < 4) ∧ z = 6 ∧ co = -1 ∧ tk = -1 ∧ m' = m) ∨ ((0 ≤ o.c ∧ o.c < 4) ∧ ∃ h : Nat, h < 4 ∧ ((o.b = -1 ∧ h = lightF (ldM m) 3) ∨ o.b = h) ∧ z = 0 ∧ co = h ∧ tk = t ∧ m' = m.setTk t (1, (h : Int), o.c)))))))
theorem setTk_setTk (m : Mdl) (t : Nat) (a b : Int × Int × Int) : (m.setTk t a).setTk t b = m.setTk t b := by
  unfold Mdl.setTk
  have : upd (upd m.tk t a) t b = upd m.tk t b := by
    funext j
    unfold upd
    split <;> rfl
  simp only [this]
theorem MdlAt.putTask {w : World} {D base : Nat} {V : Nat → Value} {m : Mdl} (h : MdlAt w D base V m) {t : Nat} (ht : t < 16) (a b c : Int) :
    MdlAt (((w.setCell ⟨D, 1 + t * 3, none⟩ (.int .u8 a)).setCell ⟨D, 1 + t * 3 + 1, none⟩ (.int .i64 b)).setCell ⟨D, 1 + t * 3 + 2, none⟩ (.int .i64 c)) D base V (m.setTk t (a, b, c)) ∧ MFr D V V w (((w.setCell ⟨D, 1 + t * 3, none⟩ (.int .u8 a)).setCell ⟨D, 1 + t * 3 + 1, none⟩ (.int .i64 b)).setCell ⟨D, 1 + t * 3 + 2, none⟩ (.int .i64 c)) := by
  obtain ⟨H1, F1⟩ := h.putSt ht a
  obtain ⟨H2, F2⟩ := H1.putHome ht b
  obtain ⟨H3, F3⟩ := H2.putBand ht c
  have tkS : ∀ (q : Mdl) (x : Int × Int × Int), (q.setTk t x).tk t = x := fun q x => upd_same _ _ _
  simp only [setTk_setTk, tkS] at H3
  exact ⟨H3, (F1.trans F2).trans F3⟩
theorem light_next (ld : Nat → Int) (k : Nat) : lightF ld k = if ld k < ld (lightF ld (k - 1)) then k else lightF ld (k - 1) := by
  cases k with
  | zero => simp [lightF]
  | succ d => rfl
set_option maxRecDepth 20000 in
set_option maxHeartbeats 8000000 in
theorem mattach_any {w : World} {D base : Nat} {V : Nat → Value} {m : Mdl} {o : OpS} (H : MdlAt w D base V m) (hbw : base ≤ w.heap.size) :
    Calls Tryz.prog 83 #[.pointer (some ⟨D, 0, none⟩), opV o] w fun e w' => ∃ z co tk m', e = .returned (.agg (resCs z co tk 0 false msg0 none 0 0)) ∧ AttM m o z co tk m' ∧ MdlAt w' D base V m' ∧ MFr D V V w w' := by
  have hDl := H.dlt
  have n4D : w.heap.size ≠ D := by omega
  have n5D : (w.heap.size + 1) ≠ D := by omega
  have hF : MdlAt (World.alloc (w.alloc (.cells #[.int .u8 o.kd, .int .i64 o.a, .int .i64 o.b, .int .i64 o.c, .int .u64 o.x, .int .u64 o.y] 32)) (.cells #[.int .i64 0, .int .i64 0, .int .i64 0, .int .u64 0, .bool false, .int .i64 0, .int .i64 0, .int .u32 0, .int .u64 0, .int .u64 0, .int .u64 0, .int .u64 0, .int .u64 0, .int .u64 0, .slice none 0 0] 43)) D base V m ∧ OpAt (World.alloc (w.alloc (.cells #[.int .u8 o.kd, .int .i64 o.a, .int .i64 o.b, .int .i64 o.c, .int .u64 o.x, .int .u64 o.y] 32)) (.cells #[.int .i64 0, .int .i64 0, .int .i64 0, .int .u64 0, .bool false, .int .i64 0, .int .i64 0, .int .u32 0, .int .u64 0, .int .u64 0, .int .u64 0, .int .u64 0, .int .u64 0, .int .u64 0, .slice none 0 0] 43)) w.heap.size o ∧ RowR (World.alloc (w.alloc (.cells #[.int .u8 o.kd, .int .i64 o.a, .int .i64 o.b, .int .i64 o.c, .int .u64 o.x, .int .u64 o.y] 32)) (.cells #[.int .i64 0, .int .i64 0, .int .i64 0, .int .u64 0, .bool false, .int .i64 0, .int .i64 0, .int .u32 0, .int .u64 0, .int .u64 0, .int .u64 0, .int .u64 0, .int .u64 0, .int .u64 0, .slice none 0 0] 43)) (w.heap.size + 1) #[.int .i64 0, .int .i64 0, .int .i64 0, .int .u64 0, .bool false, .int .i64 0, .int .i64 0, .int .u32 0, .int .u64 0, .int .u64 0, .int .u64 0, .int .u64 0, .int .u64 0, .int .u64 0, .slice none 0 0] ∧ MW D V V w (World.alloc (w.alloc (.cells #[.int .u8 o.kd, .int .i64 o.a, .int .i64 o.b, .int .i64 o.c, .int .u64 o.x, .int .u64 o.y] 32)) (.cells #[.int .i64 0, .int .i64 0, .int .i64 0, .int .u64 0, .bool false, .int .i64 0, .int .i64 0, .int .u32 0, .int .u64 0, .int .u64 0, .int .u64 0, .int .u64 0, .int .u64 0, .int .u64 0, .slice none 0 0] 43)) ∧ (Off V w.heap.size ∧ Off V (w.heap.size + 1)) ∧ base ≤ (World.alloc (w.alloc (.cells #[.int .u8 o.kd, .int .i64 o.a, .int .i64 o.b, .int .i64 o.c, .int .u64 o.x, .int .u64 o.y] 32)) (.cells #[.int .i64 0, .int .i64 0, .int .i64 0, .int .u64 0, .bool false, .int .i64 0, .int .i64 0, .int .u32 0, .int .u64 0, .int .u64 0, .int .u64 0, .int .u64 0, .int .u64 0, .int .u64 0, .slice none 0 0] 43)).heap.size := by
    have b1 := one_alloc w (.cells #[.int .u8 o.kd, .int .i64 o.a, .int .i64 o.b, .int .i64 o.c, .int .u64 o.x, .int .u64 o.y] 32)
    have b2 := one_alloc (w.alloc (.cells #[.int .u8 o.kd, .int .i64 o.a, .int .i64 o.b, .int .i64 o.c, .int .u64 o.x, .int .u64 o.y] 32)) (.cells #[.int .i64 0, .int .i64 0, .int .i64 0, .int .u64 0, .bool false, .int .i64 0, .int .i64 0, .int .u32 0, .int .u64 0, .int .u64 0, .int .u64 0, .int .u64 0, .int .u64 0, .int .u64 0, .slice none 0 0] 43)
    have bb := b1.trans (b2.mono b1.size)
    have hs : (w.alloc (.cells #[.int .u8 o.kd, .int .i64 o.a, .int .i64 o.b, .int .i64 o.c, .int .u64 o.x, .int .u64 o.y] 32)).heap.size = w.heap.size + 1 := by simp
    refine ⟨H.below bb, (op_new w o 32).blk (b2.block _ (by omega)), ?_, ((MFr.refl D V w).below bb).mw, ⟨H.off (Nat.le_refl _), H.off (by omega)⟩, Nat.le_trans hbw bb.size⟩
    rw [← hs]
    exact RowR.new _ _
  unfold opV
  go_enter Tryz.func83, Tryz.ntmps83
  go_upto_region 1 with fail
  generalize hW0 : World.alloc (w.alloc (.cells #[.int .u8 o.kd, .int .i64 o.a, .int .i64 o.b, .int .i64 o.c, .int .u64 o.x, .int .u64 o.y] 32)) (.cells #[.int .i64 0, .int .i64 0, .int .i64 0, .int .u64 0, .bool false, .int .i64 0, .int .i64 0, .int .u32 0, .int .u64 0, .int .u64 0, .int .u64 0, .int .u64 0, .int .u64 0, .int .u64 0, .slice none 0 0] 43) = wc at *
  clear hW0
  obtain ⟨H1, OP, R4, Mw, o45, hbs⟩ := hF
  have OP' := OP
  obtain ⟨g0, g1, g2, g3, g4, g5⟩ := OP'
  by_cases ha : 0 ≤ o.a ∧ o.a < 16
  · have hca := fun w => isTaskM_any o.a w
    rw [decide_eq_true ha] at hca
    obtain ⟨t, et⟩ : ∃ t : Nat, o.a = t := ⟨o.a.toNat, by omega⟩
    rw [et] at g1 hca
    have ht : t < 16 := by omega
    have t0 : (0 : Int) ≤ t := by omega
    have t1 : (t : Int) < 16 := by omega
    have HT := hideIt et
    clear et ha
    go_wp2_with fail
    refine (hca _).mono ?_
    rintro e wc ⟨rfl, rfl⟩
    obtain ⟨s0, _, _⟩ := H1.task ht
    obtain ⟨st, hst⟩ : ∃ st, st = (m.tk t).1 := ⟨_, rfl⟩
    rw [← hst] at s0
    have HST := hideIt hst
    clear hst hca
    go_upto_region 3 with fail
    refine wp_region_held_drew (S := (fun w' => w'.cell? ⟨w.heap.size, 1, none⟩ = some (.int .i64 (t : Int)) ∧ w'.cell? ⟨D, 1 + t * 3, none⟩ = some (.int .u8 st))) (by kernel_rfl) ⟨g1, s0⟩ (fun hHeld => ?_)
    refine wpAnyH_take (i := 0) (oi := { dst := some 13, op := Go.Op.move (Go.Operand.tmp 0), type := 26, pos := _, after := #[], guard := none }) (v := ?vv1) rfl (by kernel_rfl) (by kernel_rfl) (by kernel_rfl) (fun _ _ _ h => h) (Or.inl ⟨by rfl, ?hy1⟩) (by assumption) ?tk1
    case hy1 => (intro w hSw; (try dsimp only at hSw); go_simp; (try with_reducible rfl))
    try simp only [Act.put, List.setIfInBounds_toArray, List.set_cons_zero, List.set_cons_succ]
    refine wpAnyH_take (i := 1) (oi := { dst := some 14, op := Go.Op.fieldAddr 32 (Go.Operand.tmp 3) 1, type := 0, pos := _, after := #[], guard := none }) (v := ?vv2) rfl (by kernel_rfl) (by kernel_rfl) (by kernel_rfl) (fun _ _ _ h => h) (Or.inl ⟨by rfl, ?hy2⟩) (by assumption) ?tk2
    case hy2 => (intro w hSw; (try dsimp only at hSw); go_simp; (try with_reducible rfl))
    try simp only [Act.put, List.setIfInBounds_toArray, List.set_cons_zero, List.set_cons_succ]
    refine wpAnyH_take (i := 2) (oi := { dst := some 15, op := Go.Op.load 2 (Go.Operand.tmp 14), type := 2, pos := _, after := #[{ on := 1, ground := Go.Ground.data }], guard := none }) (v := ?vv3) rfl (by kernel_rfl) (by kernel_rfl) (by kernel_rfl) (fun _ _ _ h => h) (Or.inl ⟨by rfl, ?hy3⟩) (by assumption) ?tk3
    case hy3 => (intro w hSw; (try dsimp only at hSw); go_simp; (try with_reducible rfl))
    try simp only [Act.put, List.setIfInBounds_toArray, List.set_cons_zero, List.set_cons_succ]
    refine wpAnyH_take (i := 3) (oi := { dst := some 16, op := Go.Op.nilCheck (Go.Operand.tmp 13), type := 0, pos := _, after := #[{ on := 0, ground := Go.Ground.data }], guard := none }) (v := ?vv4) rfl (by kernel_rfl) (by kernel_rfl) (by kernel_rfl) (fun _ _ _ h => h) (Or.inl ⟨by rfl, ?hy4⟩) (by assumption) ?tk4
    case hy4 => (intro w hSw; (try dsimp only at hSw); go_simp; (try with_reducible rfl))
    try simp only [Act.put, List.setIfInBounds_toArray, List.set_cons_zero, List.set_cons_succ]
    refine wpAnyH_take (i := 4) (oi := { dst := some 17, op := Go.Op.fieldAddr 135 (Go.Operand.tmp 16) 1, type := 0, pos := _, after := #[{ on := 3, ground := Go.Ground.data }], guard := none }) (v := ?vv5) rfl (by kernel_rfl) (by kernel_rfl) (by kernel_rfl) (fun _ _ _ h => h) (Or.inl ⟨by rfl, ?hy5⟩) (by assumption) ?tk5
    case hy5 => (intro w hSw; (try dsimp only at hSw); go_simp; (try with_reducible rfl))
    try simp only [Act.put, List.setIfInBounds_toArray, List.set_cons_zero, List.set_cons_succ]
    refine wpAnyH_take (i := 5) (oi := { dst := some 18, op := Go.Op.indexAddr 131 (Go.Operand.tmp 17) (Go.Operand.tmp 15), type := 0, pos := _, after := #[{ on := 4, ground := Go.Ground.data }, { on := 2, ground := Go.Ground.data }], guard := none }) (v := ?vv6) rfl (by kernel_rfl) (by kernel_rfl) (by kernel_rfl) (fun _ _ _ h => h) (Or.inl ⟨by rfl, ?hy6⟩) (by assumption) ?tk6
    case hy6 => (intro w hSw; (try dsimp only at hSw); go_simp; (try with_reducible rfl))
    try simp only [Act.put, List.setIfInBounds_toArray, List.set_cons_zero, List.set_cons_succ]
    refine wpAnyH_take (i := 6) (oi := { dst := some 19, op := Go.Op.fieldAddr 130 (Go.Operand.tmp 18) 0, type := 0, pos := _, after := #[{ on := 5, ground := Go.Ground.data }], guard := none }) (v := ?vv7) rfl (by kernel_rfl) (by kernel_rfl) (by kernel_rfl) (fun _ _ _ h => h) (Or.inl ⟨by rfl, ?hy7⟩) (by assumption) ?tk7
    case hy7 => (intro w hSw; (try dsimp only at hSw); go_simp; (try with_reducible rfl))
    try simp only [Act.put, List.setIfInBounds_toArray, List.set_cons_zero, List.set_cons_succ]
    refine wpAnyH_take (i := 7) (oi := { dst := some 20, op := Go.Op.load 46 (Go.Operand.tmp 19), type := 46, pos := _, after := #[{ on := 6, ground := Go.Ground.data }], guard := none }) (v := ?vv8) rfl (by kernel_rfl) (by kernel_rfl) (by kernel_rfl) (fun _ _ _ h => h) (Or.inl ⟨by rfl, ?hy8⟩) (by assumption) ?tk8
    case hy8 => (intro w hSw; (try dsimp only at hSw); go_simp; (try with_reducible rfl))
    try simp only [Act.put, List.setIfInBounds_toArray, List.set_cons_zero, List.set_cons_succ]
    refine wpAnyH_take (i := 8) (oi := { dst := some 21, op := Go.Op.binOp Go.BinOp.neq 46 (Go.Operand.tmp 20) (Go.Operand.const (Go.Value.int Go.IntKind.u8 0)) 46, type := 4, pos := _, after := #[{ on := 7, ground := Go.Ground.data }], guard := none }) (v := ?vv9) rfl (by kernel_rfl) (by kernel_rfl) (by kernel_rfl) (fun _ _ _ h => h) (Or.inl ⟨by rfl, ?hy9⟩) (by assumption) ?tk9
    case hy9 => (intro w hSw; (try dsimp only at hSw); go_simp; (try with_reducible rfl))
    try simp only [Act.put, List.setIfInBounds_toArray, List.set_cons_zero, List.set_cons_succ]
    refine wpAnyH_done (by kernel_rfl) ?_ _
    have hF : MdlAt wc.drew D base V m ∧ OpAt wc.drew w.heap.size o ∧ RowR wc.drew (w.heap.size + 1) #[.int .i64 0, .int .i64 0, .int .i64 0, .int .u64 0, .bool false, .int .i64 0, .int .i64 0, .int .u32 0, .int .u64 0, .int .u64 0, .int .u64 0, .int .u64 0, .int .u64 0, .int .u64 0, .slice none 0 0] ∧ MW D V V w wc.drew ∧ (Off V w.heap.size ∧ Off V (w.heap.size + 1)) ∧ base ≤ wc.drew.heap.size := ⟨H1.drew, OP.blk rfl, R4.blk rfl, Mw.below (below_dr (Below.refl _ _)), o45, hbs⟩
    clear H1 OP R4 Mw o45 hbs g0 g1 g2 g3 g4 g5 s0
    generalize wc.drew = wc at *
    obtain ⟨H1, OP, R4, Mw, o45, hbs⟩ := hF
    have OP' := OP
    obtain ⟨g0, g1, g2, g3, g4, g5⟩ := OP'
    rw [HT.out] at g1
    by_cases hs : st = 0
    · have es : (st != 0) = false := by simp [hs]
      have HS : Hid ((m.tk t).1 = 0) := hideIt (by rw [← HST.out]; exact hs)
      clear hs
      by_cases hb : o.b ≠ -1 ∧ ¬ (0 ≤ o.b ∧ o.b < 4)
      · have eb : (o.b != -1) = true := by simp [hb.1]
        have hcb := fun w => isCore_any o.b w
        rw [decide_eq_false hb.2] at hcb
        have HB := hideIt hb
        clear hb
        go_wp2_with fail
        refine (hcb _).mono ?_
        rintro e wc ⟨rfl, rfl⟩
        have han := answer_r 4 wc
        go_wp2_with fail
        refine han.mono ?_
        rintro e w5 ⟨rfl, hb5⟩
        have R5 := R4.blk (hb5.block _ R4.lt)
        have hs43 := R5.store rfl (cs := (resCs 4 (-1) (-1) 0 false msg0 none 0 0)) rfl (resCs_one _ _ _ _ _ _ _ _ _)
        have HB5 := hideIt hb5
        clear han hb5
        go_wp2_with (first | (refine wpList_store_row rfl (.tmp 4) (.tmp 32) 43 rfl ⟨(w.heap.size + 1), 0, none⟩ (.agg (resCs 4 (-1) (-1) 0 false msg0 none 0 0)) rfl rfl hs43 ?_) | go_in)
        have H5 := (H1.below HB5.out).otherRow (b := (w.heap.size + 1)) (cs := (resCs 4 (-1) (-1) 0 false msg0 none 0 0)) n5D o45.2
        have M5 := (Mw.below HB5.out).row (b := (w.heap.size + 1)) (cs := (resCs 4 (-1) (-1) 0 false msg0 none 0 0)) (by omega)
        refine bodyPost_ret (v := .agg (resCs 4 (-1) (-1) 0 false msg0 none 0 0)) (results_cell_row rfl _ _ (w.heap.size + 1) 43 _ (0, 0) _ rfl R5.row Tryz.underlying43 rfl sz43) rfl ⟨4, -1, -1, m, rfl, .inr ⟨t, HT.out, ht, .inr ⟨HS.out, .inl ⟨HB.out, rfl, rfl, rfl, rfl⟩⟩⟩, H5, M5.fr⟩
      · by_cases hc : 0 ≤ o.c ∧ o.c < 4
        · have hcc := fun w => isBandM_any o.c w
          rw [decide_eq_true hc] at hcc
          have HC := hideIt hc
          clear hc
          have HB := hideIt hb
          clear hb
          obtain ⟨oc, hoc⟩ : ∃ oc, oc = o.c := ⟨_, rfl⟩
          rw [← hoc] at g3 hcc
          have HOC := hideIt hoc
          clear hoc
          go_upto_region 5 with fail
          go_cut [31] (fun a31 wd => a31 = .bool false ∧ wc = wd)
          case first =>
            by_cases hm : o.b = -1
            · have eb : (o.b != -1) = false := by simp [hm]
              clear hm
              go_wp2
              go_meet
              case rel => exact ⟨rfl, rfl⟩
            · have eb : (o.b != -1) = true := by simp [hm]
              have hcb := fun w => isCore_any o.b w
              rw [decide_eq_true (by have := HB.out; omega)] at hcb
              clear hm
              go_wp2_with fail
              refine (hcb _).mono ?_
              rintro e wc ⟨rfl, rfl⟩
              go_wp2
              go_meet
              case rel => exact ⟨rfl, rfl⟩
          case rest =>
          obtain ⟨rfl, e⟩ := hcut
          subst e
          go_wp2_with fail
          refine (hcc _).mono ?_
          rintro e wc ⟨rfl, rfl⟩
          clear hcc
          go_upto_if 42 with fail
          go_cut [5, 6] from 40 to 54 (fun a5 a6 wd => ∃ h : Nat, h < 4 ∧ a5 = .int .i64 (h : Int) ∧ Hid ((o.b = -1 ∧ h = lightF (ldM m) 3) ∨ o.b = h) ∧ MdlAt wd D base V m ∧ OpAt wd w.heap.size o ∧ RowR wd (w.heap.size + 1) #[.int .i64 0, .int .i64 0, .int .i64 0, .int .u64 0, .bool false, .int .i64 0, .int .i64 0, .int .u32 0, .int .u64 0, .int .u64 0, .int .u64 0, .int .u64 0, .int .u64 0, .int .u64 0, .slice none 0 0] ∧ MW D V V w wd ∧ (Off V w.heap.size ∧ Off V (w.heap.size + 1)) ∧ base ≤ wd.heap.size)
          case first =>
            by_cases hm : o.b = -1
            · have eb : (o.b == -1) = true := by simp [hm]
              have HM := hideIt hm
              clear hm g0 g1 g2 g3 g4 g5
              have hF : MdlAt wc D base V m ∧ OpAt wc w.heap.size o ∧ RowR wc (w.heap.size + 1) #[.int .i64 0, .int .i64 0, .int .i64 0, .int .u64 0, .bool false, .int .i64 0, .int .i64 0, .int .u32 0, .int .u64 0, .int .u64 0, .int .u64 0, .int .u64 0, .int .u64 0, .int .u64 0, .slice none 0 0] ∧ MW D V V w wc ∧ (Off V w.heap.size ∧ Off V (w.heap.size + 1)) ∧ base ≤ wc.heap.size := ⟨H1, OP, R4, Mw, o45, hbs⟩
              clear H1 OP R4 Mw o45 hbs
              rw [eb]
              clear eb
              go_wp2_with fail
              go_loopg [5, 6] 4 (fun g v5 v6 wr => ∃ k h : Nat, k + g = 4 ∧ v6 = .int .i64 (k : Int) ∧ v5 = .int .i64 (h : Int) ∧ Hid (h = lightF (ldM m) (k - 1)) ∧ MdlAt wr D base V m ∧ OpAt wr w.heap.size o ∧ RowR wr (w.heap.size + 1) #[.int .i64 0, .int .i64 0, .int .i64 0, .int .u64 0, .bool false, .int .i64 0, .int .i64 0, .int .u32 0, .int .u64 0, .int .u64 0, .int .u64 0, .int .u64 0, .int .u64 0, .int .u64 0, .slice none 0 0] ∧ MW D V V w wr ∧ (Off V w.heap.size ∧ Off V (w.heap.size + 1)) ∧ base ≤ wr.heap.size)
              case atStart => exact ⟨0, 0, by omega, rfl, rfl, hideIt rfl, hF⟩
              case round =>
                clear hF
                obtain ⟨k, h, hk, rfl, rfl, HH, H1, OP, R4, Mw, o45, hbs⟩ := hrel
                by_cases h4 : k < 4
                · have hk4 : (k : Int) < 4 := by omega
                  have ha1 := atHome_any H1 (k : Int)
                  go_wp2_with fail
                  refine ha1.mono ?_
                  rintro e w2 ⟨rfl, hb2⟩
                  have H2 := H1.below hb2
                  have hF : MdlAt w2 D base V m ∧ OpAt w2 w.heap.size o ∧ RowR w2 (w.heap.size + 1) #[.int .i64 0, .int .i64 0, .int .i64 0, .int .u64 0, .bool false, .int .i64 0, .int .i64 0, .int .u32 0, .int .u64 0, .int .u64 0, .int .u64 0, .int .u64 0, .int .u64 0, .int .u64 0, .slice none 0 0] ∧ MW D V V w w2 ∧ (Off V w.heap.size ∧ Off V (w.heap.size + 1)) ∧ base ≤ w2.heap.size := ⟨H2, OP.blk (hb2.block _ OP.lt), R4.blk (hb2.block _ R4.lt), Mw.below hb2, o45, Nat.le_trans hbs hb2.size⟩
                  clear H1 OP R4 Mw o45 hbs hb2 ha1
                  have ha2 := atHome_any H2 (h : Int)
                  go_wp2_with fail
                  refine ha2.mono ?_
                  rintro e w3 ⟨rfl, hb3⟩
                  have hG : MdlAt w3 D base V m ∧ OpAt w3 w.heap.size o ∧ RowR w3 (w.heap.size + 1) #[.int .i64 0, .int .i64 0, .int .i64 0, .int .u64 0, .bool false, .int .i64 0, .int .i64 0, .int .u32 0, .int .u64 0, .int .u64 0, .int .u64 0, .int .u64 0, .int .u64 0, .int .u64 0, .slice none 0 0] ∧ MW D V V w w3 ∧ (Off V w.heap.size ∧ Off V (w.heap.size + 1)) ∧ base ≤ w3.heap.size := by
                    obtain ⟨H1, OP, R4, Mw, o45, hbs⟩ := hF
                    exact ⟨H1.below hb3, OP.blk (hb3.block _ OP.lt), R4.blk (hb3.block _ R4.lt), Mw.below hb3, o45, Nat.le_trans hbs hb3.size⟩
                  clear H2 hF hb3 ha2
                  have HL := hideIt (light_next (ldM m) k)
                  by_cases hlt : homeN m.tk (k : Int) 16 < homeN m.tk (h : Int) 16
                  · have e1 : decide (((homeN m.tk (k : Int) 16 : Nat) : Int) < ((homeN m.tk (h : Int) 16 : Nat) : Int)) = true := decide_eq_true (by omega)
                    have HK : Hid (lightF (ldM m) k = k) := hideIt (by rw [HL.out, ← HH.out, if_pos (by show ((_ : Nat) : Int) < ((_ : Nat) : Int); omega)])
                    clear hlt HL
                    generalize ((homeN m.tk (k : Int) 16 : Nat) : Int) = A at *
                    generalize ((homeN m.tk (h : Int) 16 : Nat) : Int) = B' at *
                    go_wp2
                    go_roundg (4 - (k + 1))
                    case measure => omega
                    case rel => exact ⟨k + 1, k, by omega, by go_num, rfl, hideIt HK.out.symm, hG⟩
                  · have e1 : decide (((homeN m.tk (k : Int) 16 : Nat) : Int) < ((homeN m.tk (h : Int) 16 : Nat) : Int)) = false := decide_eq_false (by omega)
                    have HK : Hid (lightF (ldM m) k = h) := hideIt (by rw [HL.out, ← HH.out, if_neg (by show ¬ (((_ : Nat) : Int) < ((_ : Nat) : Int)); omega)])
                    clear hlt HL
                    generalize ((homeN m.tk (k : Int) 16 : Nat) : Int) = A at *
                    generalize ((homeN m.tk (h : Int) 16 : Nat) : Int) = B' at *
                    go_wp2
                    go_roundg (4 - (k + 1))
                    case measure => omega
                    case rel => exact ⟨k + 1, h, by omega, by go_num, rfl, hideIt HK.out.symm, hG⟩
                · have hk' : k = 4 := by omega
                  subst hk'
                  go_wp2
                  go_meet
                  case rel => exact ⟨h, by have := lightF_le (ldM m) 3; have := HH.out; simp at this; omega, rfl, hideIt (.inl ⟨HM.out, HH.out⟩), H1, OP, R4, Mw, o45, hbs⟩
            · have eb : (o.b == -1) = false := by simp [hm]
              obtain ⟨h, hh⟩ : ∃ h : Nat, o.b = h := ⟨o.b.toNat, by have := HB.out; omega⟩
              have hh4 : h < 4 := by have := HB.out; omega
              have HH := hideIt hh
              clear hm
              rw [hh] at g2
              clear hh
              go_wp2
              go_meet
              case rel => exact ⟨h, hh4, by rw [HH.out], hideIt (.inr HH.out), H1, OP, R4, Mw, o45, hbs⟩
          case rest =>
          clear H1 OP R4 Mw o45 hbs g0 g1 g2 g3 g4 g5
          obtain ⟨h, hh4, rfl, HH, H1, OP, R4, Mw, o45, hbs⟩ := hcut
          have OP' := OP
          obtain ⟨g0, g1, g2, g3, g4, g5⟩ := OP'
          rw [HT.out] at g1
          rw [← HOC.out] at g3
          obtain ⟨s0, s1, s2⟩ := H1.task ht
          obtain ⟨p0, hp0⟩ : ∃ p0, p0 = (m.tk t).1 := ⟨_, rfl⟩
          obtain ⟨p1, hp1⟩ : ∃ p1, p1 = (m.tk t).2.1 := ⟨_, rfl⟩
          obtain ⟨p2, hp2⟩ : ∃ p2, p2 = (m.tk t).2.2 := ⟨_, rfl⟩
          rw [← hp0] at s0
          rw [← hp1] at s1
          rw [← hp2] at s2
          clear hp0 hp1 hp2
          have fz := H1.fz
          go_upto_region 17 with fail
          go_cut [] (fun wd => MdlAt wd D base V (m.setTk t (1, (h : Int), oc)) ∧ OpAt wd w.heap.size o ∧ RowR wd (w.heap.size + 1) #[.int .i64 0, .int .i64 0, .int .i64 0, .int .u64 0, .bool false, .int .i64 0, .int .i64 0, .int .u32 0, .int .u64 0, .int .u64 0, .int .u64 0, .int .u64 0, .int .u64 0, .int .u64 0, .slice none 0 0] ∧ MW D V V w wd ∧ (Off V w.heap.size ∧ Off V (w.heap.size + 1)) ∧ base ≤ wd.heap.size)
          case first =>
            refine wp_region_l (l := 10) (S := (fun w' => w'.cell? ⟨w.heap.size, 1, none⟩ = some (.int .i64 (t : Int)) ∧ w'.cell? ⟨w.heap.size, 3, none⟩ = some (.int .i64 oc) ∧ w'.cell? ⟨D, 1 + t * 3, none⟩ = some (.int .u8 p0) ∧ w'.cell? ⟨D, 1 + t * 3 + 1, none⟩ = some (.int .i64 p1) ∧ w'.cell? ⟨D, 1 + t * 3 + 2, none⟩ = some (.int .i64 p2))) (by kernel_rfl) ⟨g1, g3, s0, s1, s2⟩ (fun hHeld => ?_)
            refine AnyL.take2 (i := 0) (oi := { dst := some 55, op := Go.Op.move (Go.Operand.tmp 0), type := 26, pos := _, after := #[], guard := none }) (v := ?vv10) (by kernel_rfl) (by kernel_rfl) rfl (by kernel_rfl) (by kernel_rfl) (by kernel_rfl) (fun _ _ _ h => h) (Or.inl ⟨by rfl, ?hy10⟩) (by assumption) ?tk10
            case hy10 => (intro w hSw; (try dsimp only at hSw); go_simp; (try with_reducible rfl))
            try simp only [Act.put, List.setIfInBounds_toArray, List.set_cons_zero, List.set_cons_succ]
            refine AnyL.take2 (i := 1) (oi := { dst := some 56, op := Go.Op.fieldAddr 32 (Go.Operand.tmp 3) 1, type := 0, pos := _, after := #[], guard := none }) (v := ?vv11) (by kernel_rfl) (by kernel_rfl) rfl (by kernel_rfl) (by kernel_rfl) (by kernel_rfl) (fun _ _ _ h => h) (Or.inl ⟨by rfl, ?hy11⟩) (by assumption) ?tk11
            case hy11 => (intro w hSw; (try dsimp only at hSw); go_simp; (try with_reducible rfl))
            try simp only [Act.put, List.setIfInBounds_toArray, List.set_cons_zero, List.set_cons_succ]
            refine AnyL.take2 (i := 2) (oi := { dst := some 57, op := Go.Op.load 2 (Go.Operand.tmp 56), type := 2, pos := _, after := #[{ on := 1, ground := Go.Ground.data }], guard := none }) (v := ?vv12) (by kernel_rfl) (by kernel_rfl) rfl (by kernel_rfl) (by kernel_rfl) (by kernel_rfl) (fun _ _ _ h => h) (Or.inl ⟨by rfl, ?hy12⟩) (by assumption) ?tk12
            case hy12 => (intro w hSw; (try dsimp only at hSw); go_simp; (try with_reducible rfl))
            try simp only [Act.put, List.setIfInBounds_toArray, List.set_cons_zero, List.set_cons_succ]
            refine AnyL.take2 (i := 3) (oi := { dst := some 58, op := Go.Op.move (Go.Operand.tmp 5), type := 34, pos := _, after := #[], guard := none }) (v := ?vv13) (by kernel_rfl) (by kernel_rfl) rfl (by kernel_rfl) (by kernel_rfl) (by kernel_rfl) (fun _ _ _ h => h) (Or.inl ⟨by rfl, ?hy13⟩) (by assumption) ?tk13
            case hy13 => (intro w hSw; (try dsimp only at hSw); go_simp; (try with_reducible rfl))
            try simp only [Act.put, List.setIfInBounds_toArray, List.set_cons_zero, List.set_cons_succ]
            refine AnyL.take2 (i := 4) (oi := { dst := some 59, op := Go.Op.fieldAddr 32 (Go.Operand.tmp 3) 3, type := 0, pos := _, after := #[], guard := none }) (v := ?vv14) (by kernel_rfl) (by kernel_rfl) rfl (by kernel_rfl) (by kernel_rfl) (by kernel_rfl) (fun _ _ _ h => h) (Or.inl ⟨by rfl, ?hy14⟩) (by assumption) ?tk14
            case hy14 => (intro w hSw; (try dsimp only at hSw); go_simp; (try with_reducible rfl))
            try simp only [Act.put, List.setIfInBounds_toArray, List.set_cons_zero, List.set_cons_succ]
            refine AnyL.take2 (i := 5) (oi := { dst := some 60, op := Go.Op.load 2 (Go.Operand.tmp 59), type := 2, pos := _, after := #[{ on := 4, ground := Go.Ground.data }], guard := none }) (v := ?vv15) (by kernel_rfl) (by kernel_rfl) rfl (by kernel_rfl) (by kernel_rfl) (by kernel_rfl) (fun _ _ _ h => h) (Or.inl ⟨by rfl, ?hy15⟩) (by assumption) ?tk15
            case hy15 => (intro w hSw; (try dsimp only at hSw); go_simp; (try with_reducible rfl))
            try simp only [Act.put, List.setIfInBounds_toArray, List.set_cons_zero, List.set_cons_succ]
            refine AnyL.take2 (i := 6) (oi := { dst := some 61, op := Go.Op.build 130 #[(0, Go.Operand.const (Go.Value.int Go.IntKind.u8 1)), (1, Go.Operand.tmp 58), (2, Go.Operand.tmp 60)], type := 130, pos := _, after := #[{ on := 3, ground := Go.Ground.data }, { on := 5, ground := Go.Ground.data }], guard := none }) (v := ?vv16) (by kernel_rfl) (by kernel_rfl) rfl (by kernel_rfl) (by kernel_rfl) (by kernel_rfl) (fun _ _ _ h => h) (Or.inl ⟨by rfl, ?hy16⟩) (by assumption) ?tk16
            case hy16 => (intro w hSw; (try dsimp only at hSw); go_simp; (try with_reducible rfl))
            try simp only [Act.put, List.setIfInBounds_toArray, List.set_cons_zero, List.set_cons_succ]
            refine AnyL.take2 (i := 7) (oi := { dst := some 62, op := Go.Op.nilCheck (Go.Operand.tmp 55), type := 0, pos := _, after := #[{ on := 0, ground := Go.Ground.data }], guard := none }) (v := ?vv17) (by kernel_rfl) (by kernel_rfl) rfl (by kernel_rfl) (by kernel_rfl) (by kernel_rfl) (fun _ _ _ h => h) (Or.inl ⟨by rfl, ?hy17⟩) (by assumption) ?tk17
            case hy17 => (intro w hSw; (try dsimp only at hSw); go_simp; (try with_reducible rfl))
            try simp only [Act.put, List.setIfInBounds_toArray, List.set_cons_zero, List.set_cons_succ]
            refine AnyL.take2 (i := 8) (oi := { dst := some 63, op := Go.Op.fieldAddr 135 (Go.Operand.tmp 62) 1, type := 0, pos := _, after := #[{ on := 7, ground := Go.Ground.data }], guard := none }) (v := ?vv18) (by kernel_rfl) (by kernel_rfl) rfl (by kernel_rfl) (by kernel_rfl) (by kernel_rfl) (fun _ _ _ h => h) (Or.inl ⟨by rfl, ?hy18⟩) (by assumption) ?tk18
            case hy18 => (intro w hSw; (try dsimp only at hSw); go_simp; (try with_reducible rfl))
            try simp only [Act.put, List.setIfInBounds_toArray, List.set_cons_zero, List.set_cons_succ]
            refine AnyL.take2 (i := 9) (oi := { dst := some 64, op := Go.Op.indexAddr 131 (Go.Operand.tmp 63) (Go.Operand.tmp 57), type := 0, pos := _, after := #[{ on := 8, ground := Go.Ground.data }, { on := 2, ground := Go.Ground.data }, { on := 0, ground := Go.Ground.phase }, { on := 1, ground := Go.Ground.phase }, { on := 2, ground := Go.Ground.phase }, { on := 3, ground := Go.Ground.phase }, { on := 4, ground := Go.Ground.phase }, { on := 5, ground := Go.Ground.phase }, { on := 6, ground := Go.Ground.phase }], guard := none }) (v := ?vv19) (by kernel_rfl) (by kernel_rfl) rfl (by kernel_rfl) (by kernel_rfl) (by kernel_rfl) (fun _ _ _ h => h) (Or.inl ⟨by rfl, ?hy19⟩) (by assumption) ?tk19
            case hy19 => (intro w hSw; (try dsimp only at hSw); go_simp; (try with_reducible rfl))
            try simp only [Act.put, List.setIfInBounds_toArray, List.set_cons_zero, List.set_cons_succ]
            refine AnyL.last (o := { dst := none, op := Go.Op.store 130 (Go.Operand.tmp 64) (Go.Operand.tmp 61), type := 0, pos := _, after := #[{ on := 9, ground := Go.Ground.data }, { on := 6, ground := Go.Ground.data }, { on := 0, ground := Go.Ground.phase }, { on := 1, ground := Go.Ground.phase }, { on := 2, ground := Go.Ground.phase }, { on := 3, ground := Go.Ground.phase }, { on := 4, ground := Go.Ground.phase }, { on := 5, ground := Go.Ground.phase }, { on := 6, ground := Go.Ground.phase }], guard := none }) (by kernel_rfl) rfl (by kernel_rfl) (fun K' hK' => ?_)
            go_simp
            clear hHeld
            refine hK'.out _ _ ?_
            clear hK' K'
            try simp only [Act.put, List.setIfInBounds_toArray, List.set_cons_zero, List.set_cons_succ]
            go_wp2
            go_meet
            case rel =>
              obtain ⟨H8, F8⟩ := H1.putTask ht 1 (h : Int) oc
              exact ⟨H8.drew, OP.blk (((far_set n4D).trans (far_set n4D)).trans (far_set n4D)), R4.blk (((far_set n5D).trans (far_set n5D)).trans (far_set n5D)), (Mw.then F8).below (below_dr (Below.refl _ _)), o45, by simpa using hbs⟩
          case rest =>
          clear H1 OP R4 Mw o45 hbs g0 g1 g2 g3 g4 g5 s0 s1 s2 fz
          obtain ⟨H1, OP, R4, Mw, o45, hbs⟩ := hcut
          obtain ⟨mf, hmf⟩ : ∃ mf, mf = m.setTk t (1, (h : Int), oc) := ⟨_, rfl⟩
          rw [← hmf] at H1
          have HMF := hideIt hmf
          have hl5 := R4.lt
          have hl6 := OP.lt
          have HQ := hideIt (And.intro H1 (And.intro R4 (And.intro Mw (And.intro o45.2 OP))))
          clear hmf H1 R4 Mw OP o45
          go_upto_region 18 with fail
          go_cut [7] (fun a7 wd => ∃ b7 : Nat, a7 = .pointer (some ⟨b7, 0, none⟩) ∧ MdlAt wd D base V mf ∧ OpAt wd w.heap.size o ∧ RowR wd b7 (resCs 0 (-1) (-1) 0 false msg0 none 0 0) ∧ RowR wd (w.heap.size + 1) #[.int .i64 0, .int .i64 0, .int .i64 0, .int .u64 0, .bool false, .int .i64 0, .int .i64 0, .int .u32 0, .int .u64 0, .int .u64 0, .int .u64 0, .int .u64 0, .int .u64 0, .int .u64 0, .slice none 0 0] ∧ MW D V V w wd ∧ (Off V b7 ∧ Off V (w.heap.size + 1)) ∧ (w.heap.size + 1) < b7)
          case first =>
            go_wp2_with fail
            refine (answer_any 0 _).mono ?_
            rintro e w6 ⟨rfl, hb6⟩
            have hs6 := hb6.size
            have HB6 := hideIt hb6
            clear hb6
            unfold resV
            go_wp2
            go_meet
            case rel =>
              obtain ⟨H5, R5, M5, o5, O5⟩ := HQ.out
              have b1 := one_alloc w6 (.cells (resCs 0 (-1) (-1) 0 false msg0 none 0 0) 43)
              have bb := HB6.out.trans (b1.mono hs6)
              exact ⟨w6.heap.size, rfl, H5.below bb, O5.blk (bb.block _ hl6), RowR.new w6 _, R5.blk (bb.block _ hl5), M5.below bb, ⟨H5.off (by omega), o5⟩, by omega⟩
          case rest =>
          clear HQ hl5 hl6
          obtain ⟨b7, rfl, H1, OP, R7, R4, Mw, o75, h75⟩ := hcut
          have n7D : b7 ≠ D := by omega
          have n7O : w.heap.size ≠ b7 := by omega
          have q1 := R7.cell (j := 1) rfl
          have q2 := R7.cell (j := 2) rfl
          have fz7 := R7.fz
          obtain ⟨g0, g1, g2, g3, g4, g5⟩ := OP
          rw [HT.out] at g1
          go_upto_region 19 with fail
          go_cut [] (fun wd => MdlAt wd D base V mf ∧ RowR wd b7 (resCs 0 (h : Int) (t : Int) 0 false msg0 none 0 0) ∧ RowR wd (w.heap.size + 1) #[.int .i64 0, .int .i64 0, .int .i64 0, .int .u64 0, .bool false, .int .i64 0, .int .i64 0, .int .u32 0, .int .u64 0, .int .u64 0, .int .u64 0, .int .u64 0, .int .u64 0, .int .u64 0, .slice none 0 0] ∧ MW D V V w wd ∧ (Off V b7 ∧ Off V (w.heap.size + 1)) ∧ (w.heap.size + 1) < b7)
          case first =>
            go_region_held3 (fun w' => w'.cell? ⟨w.heap.size, 1, none⟩ = some (.int .i64 (t : Int))) (first | exact g1 | go_simp) (fail)
            go_wp2
            go_meet
            case rel => exact ⟨((H1.other n7D o75.1).other n7D o75.1).drew, (R7.set.set).blk rfl, R4.blk ((far_set (show (w.heap.size + 1) ≠ b7 by omega)).trans (far_set (show (w.heap.size + 1) ≠ b7 by omega))), ((Mw.set (by omega)).set (by omega)).below (below_dr (Below.refl _ _)), o75, h75⟩
          case rest =>
          clear H1 R7 R4 Mw o75 h75 q1 q2 fz7 g0 g1 g2 g3 g4 g5
          obtain ⟨H1, R7, R4, Mw, o75, h75⟩ := hcut
          have hl43 := R7.load rfl
          have hs43 := R4.store rfl (cs := (resCs 0 (h : Int) (t : Int) 0 false msg0 none 0 0)) rfl (resCs_one _ _ _ _ _ _ _ _ _)
          go_upto_region 20 with fail
          go_wp2_with (first | (refine wpList_load_row rfl (.tmp 7) 43 rfl ⟨b7, 0, none⟩ (.agg (resCs 0 (h : Int) (t : Int) 0 false msg0 none 0 0)) rfl hl43 ?_) | (refine wpList_store_row rfl (.tmp 4) (.tmp 71) 43 rfl ⟨(w.heap.size + 1), 0, none⟩ (.agg (resCs 0 (h : Int) (t : Int) 0 false msg0 none 0 0)) rfl rfl hs43 ?_) | go_in)
          refine bodyPost_ret (v := .agg (resCs 0 (h : Int) (t : Int) 0 false msg0 none 0 0)) (results_cell_row rfl _ _ (w.heap.size + 1) 43 _ (0, 0) _ rfl R4.row Tryz.underlying43 rfl sz43) rfl ⟨0, h, t, mf, rfl, .inr ⟨t, HT.out, ht, .inr ⟨HS.out, .inr ⟨HB.out, .inr ⟨HC.out, h, hh4, HH.out, rfl, rfl, rfl, ?_⟩⟩⟩⟩, H1.otherRow n5D o75.2, (Mw.row (by omega)).fr⟩
          rw [HMF.out, HOC.out]
        · have hcc := fun w => isBandM_any o.c w
          rw [decide_eq_false hc] at hcc
          have HC := hideIt hc
          clear hc
          by_cases hm : o.b = -1
          · have eb : (o.b != -1) = false := by simp [hm]
            have HB := hideIt hb
            clear hb
            clear hm
            go_wp2_with fail
            refine (hcc _).mono ?_
            rintro e wc ⟨rfl, rfl⟩
            have han := answer_r 6 wc
            go_wp2_with fail
            refine han.mono ?_
            rintro e w5 ⟨rfl, hb5⟩
            have R5 := R4.blk (hb5.block _ R4.lt)
            have hs43 := R5.store rfl (cs := (resCs 6 (-1) (-1) 0 false msg0 none 0 0)) rfl (resCs_one _ _ _ _ _ _ _ _ _)
            have HB5 := hideIt hb5
            clear han hb5
            go_wp2_with (first | (refine wpList_store_row rfl (.tmp 4) (.tmp 37) 43 rfl ⟨(w.heap.size + 1), 0, none⟩ (.agg (resCs 6 (-1) (-1) 0 false msg0 none 0 0)) rfl rfl hs43 ?_) | go_in)
            have H5 := (H1.below HB5.out).otherRow (b := (w.heap.size + 1)) (cs := (resCs 6 (-1) (-1) 0 false msg0 none 0 0)) n5D o45.2
            have M5 := (Mw.below HB5.out).row (b := (w.heap.size + 1)) (cs := (resCs 6 (-1) (-1) 0 false msg0 none 0 0)) (by omega)
            refine bodyPost_ret (v := .agg (resCs 6 (-1) (-1) 0 false msg0 none 0 0)) (results_cell_row rfl _ _ (w.heap.size + 1) 43 _ (0, 0) _ rfl R5.row Tryz.underlying43 rfl sz43) rfl ⟨6, -1, -1, m, rfl, .inr ⟨t, HT.out, ht, .inr ⟨HS.out, .inr ⟨HB.out, .inl ⟨HC.out, rfl, rfl, rfl, rfl⟩⟩⟩⟩, H5, M5.fr⟩
          · have eb : (o.b != -1) = true := by simp [hm]
            have hin : 0 ≤ o.b ∧ o.b < 4 := by omega
            have hcb := fun w => isCore_any o.b w
            rw [decide_eq_true hin] at hcb
            have HB := hideIt hb
            clear hb hin
            go_wp2_with fail
            refine (hcb _).mono ?_
            rintro e wc ⟨rfl, rfl⟩
            go_wp2_with fail
            refine (hcc _).mono ?_
            rintro e wc ⟨rfl, rfl⟩
            have han := answer_r 6 wc
            go_wp2_with fail
            refine han.mono ?_
            rintro e w5 ⟨rfl, hb5⟩
            have R5 := R4.blk (hb5.block _ R4.lt)
            have hs43 := R5.store rfl (cs := (resCs 6 (-1) (-1) 0 false msg0 none 0 0)) rfl (resCs_one _ _ _ _ _ _ _ _ _)
            have HB5 := hideIt hb5
            clear han hb5
            go_wp2_with (first | (refine wpList_store_row rfl (.tmp 4) (.tmp 37) 43 rfl ⟨(w.heap.size + 1), 0, none⟩ (.agg (resCs 6 (-1) (-1) 0 false msg0 none 0 0)) rfl rfl hs43 ?_) | go_in)
            have H5 := (H1.below HB5.out).otherRow (b := (w.heap.size + 1)) (cs := (resCs 6 (-1) (-1) 0 false msg0 none 0 0)) n5D o45.2
            have M5 := (Mw.below HB5.out).row (b := (w.heap.size + 1)) (cs := (resCs 6 (-1) (-1) 0 false msg0 none 0 0)) (by omega)
            refine bodyPost_ret (v := .agg (resCs 6 (-1) (-1) 0 false msg0 none 0 0)) (results_cell_row rfl _ _ (w.heap.size + 1) 43 _ (0, 0) _ rfl R5.row Tryz.underlying43 rfl sz43) rfl ⟨6, -1, -1, m, rfl, .inr ⟨t, HT.out, ht, .inr ⟨HS.out, .inr ⟨HB.out, .inl ⟨HC.out, rfl, rfl, rfl, rfl⟩⟩⟩⟩, H5, M5.fr⟩
    · have es : (st != 0) = true := by simp [hs]
      have HS : Hid ((m.tk t).1 ≠ 0) := hideIt (by rw [← HST.out]; exact hs)
      clear hs
      have han := answer_r 11 wc
      go_wp2_with fail
      refine han.mono ?_
      rintro e w5 ⟨rfl, hb5⟩
      have R5 := R4.blk (hb5.block _ R4.lt)
      have hs43 := R5.store rfl (cs := (resCs 11 (-1) (-1) 0 false msg0 none 0 0)) rfl (resCs_one _ _ _ _ _ _ _ _ _)
      have HB5 := hideIt hb5
      clear han hb5
      go_wp2_with (first | (refine wpList_store_row rfl (.tmp 4) (.tmp 22) 43 rfl ⟨(w.heap.size + 1), 0, none⟩ (.agg (resCs 11 (-1) (-1) 0 false msg0 none 0 0)) rfl rfl hs43 ?_) | go_in)
      have H5 := (H1.below HB5.out).otherRow (b := (w.heap.size + 1)) (cs := (resCs 11 (-1) (-1) 0 false msg0 none 0 0)) n5D o45.2
      have M5 := (Mw.below HB5.out).row (b := (w.heap.size + 1)) (cs := (resCs 11 (-1) (-1) 0 false msg0 none 0 0)) (by omega)
      refine bodyPost_ret (v := .agg (resCs 11 (-1) (-1) 0 false msg0 none 0 0)) (results_cell_row rfl _ _ (w.heap.size + 1) 43 _ (0, 0) _ rfl R5.row Tryz.underlying43 rfl sz43) rfl ⟨11, -1, -1, m, rfl, .inr ⟨t, HT.out, ht, .inl ⟨HS.out, rfl, rfl, rfl, rfl⟩⟩, H5, M5.fr⟩
  · have hca := fun w => isTaskM_any o.a w
    rw [decide_eq_false ha] at hca
    have HN := hideIt ha
    clear ha
    go_wp2_with fail
    refine (hca _).mono ?_
    rintro e wc ⟨rfl, rfl⟩
    have han := answer_r 5 wc
    go_wp2_with fail
    refine han.mono ?_
    rintro e w5 ⟨rfl, hb5⟩
    have R5 := R4.blk (hb5.block _ R4.lt)
    have hs43 := R5.store rfl (cs := (resCs 5 (-1) (-1) 0 false msg0 none 0 0)) rfl (resCs_one _ _ _ _ _ _ _ _ _)
    have HB5 := hideIt hb5
    clear han hb5
    go_wp2_with (first | (refine wpList_store_row rfl (.tmp 4) (.tmp 12) 43 rfl ⟨(w.heap.size + 1), 0, none⟩ (.agg (resCs 5 (-1) (-1) 0 false msg0 none 0 0)) rfl rfl hs43 ?_) | go_in)
    have H5 := (H1.below HB5.out).otherRow (b := (w.heap.size + 1)) (cs := (resCs 5 (-1) (-1) 0 false msg0 none 0 0)) n5D o45.2
    have M5 := (Mw.below HB5.out).row (b := (w.heap.size + 1)) (cs := (resCs 5 (-1) (-1) 0 false msg0 none 0 0)) (by omega)
    refine bodyPost_ret (v := .agg (resCs 5 (-1) (-1) 0 false msg0 none 0 0)) (results_cell_row rfl _ _ (w.heap.size + 1) 43 _ (0, 0) _ rfl R5.row Tryz.underlying43 rfl sz43) rfl ⟨5, -1, -1, m, rfl, .inl ⟨HN.out, rfl, rfl, rfl, rfl⟩, H5, M5.fr⟩
end Go.Proofs.Qxb6500877aGreatDoor
