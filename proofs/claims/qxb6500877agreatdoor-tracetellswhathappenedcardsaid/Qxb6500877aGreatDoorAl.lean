import Derived.Deep.CutBlock
import Derived.OwnWalk
import Derived.Test.Qxb6500877aGreatDoorAk
set_option linter.unusedVariables false
set_option linter.unusedSimpArgs false
namespace Go.Proofs.Qxb6500877aGreatDoor
open Go.RowKit

theorem answer_r (z : Int) (w : World) : Calls Tryz.prog 85 #[.int .i64 z] w fun e w' => e = .returned (.agg (resCs z (-1) (-1) 0 false msg0 none 0 0)) ∧ Below w.heap.size w w' := answer_any z w
/-- A send, in the model. -/
def SendM (m : Mdl) (o : OpS) (c co : Int) (m' : Mdl) : Prop :=
  (¬ (0 ≤ o.c ∧ o.c < 4294967296) ∧ c = 7 ∧ co = -1 ∧ m' = m) ∨ ((0 ≤ o.c ∧ o.c < 4294967296) ∧ ((¬ ((0 ≤ o.a ∧ o.a < 4) ∧ (0 ≤ o.b ∧ o.b < 4)) ∧ c = 4 ∧ co = -1 ∧ m' = m) ∨ ∃ x y : Nat, o.a = x ∧ x < 4 ∧ o.b = y ∧ y < 4 ∧ (((m.bx (x * 4 + y)).length = 32 ∧ c = 8 ∧ co = -1 ∧ m' = m) ∨ ((m.bx (x * 4 + y)).length ≠ 32 ∧ c = 0 ∧ co = y ∧ m' = m.post x y o))))
set_option maxRecDepth 20000 in
set_option maxHeartbeats 8000000 in
theorem msend_any {w : World} {D base : Nat} {V : Nat → Value} {m : Mdl} {o : OpS} (H : MdlAt w D base V m) (hbw : base ≤ w.heap.size) (hl : ∀ b, b < 16 → (m.bx b).length ≤ 900) :
    Calls Tryz.prog 77 #[.pointer (some ⟨D, 0, none⟩), opV o] w fun e w' => ∃ V' c co m', e = .returned (.agg (resCs c co (-1) 0 false msg0 none 0 0)) ∧ SendM m o c co m' ∧ MdlAt w' D base V' m' ∧ MFr D V V' w w' := by
  have hDl := H.dlt
  have n4D : w.heap.size ≠ D := by omega
  have n5D : (w.heap.size + 1) ≠ D := by omega
  have hF : MdlAt (World.alloc (w.alloc (.cells #[.int .u8 o.kd, .int .i64 o.a, .int .i64 o.b, .int .i64 o.c, .int .u64 o.x, .int .u64 o.y] 32)) (.cells #[.int .i64 0, .int .i64 0, .int .i64 0, .int .u64 0, .bool false, .int .i64 0, .int .i64 0, .int .u32 0, .int .u64 0, .int .u64 0, .int .u64 0, .int .u64 0, .int .u64 0, .int .u64 0, .slice none 0 0] 43)) D base V m ∧ OpAt (World.alloc (w.alloc (.cells #[.int .u8 o.kd, .int .i64 o.a, .int .i64 o.b, .int .i64 o.c, .int .u64 o.x, .int .u64 o.y] 32)) (.cells #[.int .i64 0, .int .i64 0, .int .i64 0, .int .u64 0, .bool false, .int .i64 0, .int .i64 0, .int .u32 0, .int .u64 0, .int .u64 0, .int .u64 0, .int .u64 0, .int .u64 0, .int .u64 0, .slice none 0 0] 43)) w.heap.size o ∧ RowR (World.alloc (w.alloc (.cells #[.int .u8 o.kd, .int .i64 o.a, .int .i64 o.b, .int .i64 o.c, .int .u64 o.x, .int .u64 o.y] 32)) (.cells #[.int .i64 0, .int .i64 0, .int .i64 0, .int .u64 0, .bool false, .int .i64 0, .int .i64 0, .int .u32 0, .int .u64 0, .int .u64 0, .int .u64 0, .int .u64 0, .int .u64 0, .int .u64 0, .slice none 0 0] 43)) (w.heap.size + 1) #[.int .i64 0, .int .i64 0, .int .i64 0, .int .u64 0, .bool false, .int .i64 0, .int .i64 0, .int .u32 0, .int .u64 0, .int .u64 0, .int .u64 0, .int .u64 0, .int .u64 0, .int .u64 0, .slice none 0 0] ∧ MW D V V w (World.alloc (w.alloc (.cells #[.int .u8 o.kd, .int .i64 o.a, .int .i64 o.b, .int .i64 o.c, .int .u64 o.x, .int .u64 o.y] 32)) (.cells #[.int .i64 0, .int .i64 0, .int .i64 0, .int .u64 0, .bool false, .int .i64 0, .int .i64 0, .int .u32 0, .int .u64 0, .int .u64 0, .int .u64 0, .int .u64 0, .int .u64 0, .int .u64 0, .slice none 0 0] 43)) ∧ (Off V w.heap.size ∧ Off V (w.heap.size + 1)) ∧ base ≤ (World.alloc (w.alloc (.cells #[.int .u8 o.kd, .int .i64 o.a, .int .i64 o.b, .int .i64 o.c, .int .u64 o.x, .int .u64 o.y] 32)) (.cells #[.int .i64 0, .int .i64 0, .int .i64 0, .int .u64 0, .bool false, .int .i64 0, .int .i64 0, .int .u32 0, .int .u64 0, .int .u64 0, .int .u64 0, .int .u64 0, .int .u64 0, .int .u64 0, .slice none 0 0] 43)).heap.size := by
    have b1 := one_alloc w (.cells #[.int .u8 o.kd, .int .i64 o.a, .int .i64 o.b, .int .i64 o.c, .int .u64 o.x, .int .u64 o.y] 32)
    have b2 := one_alloc (w.alloc (.cells #[.int .u8 o.kd, .int .i64 o.a, .int .i64 o.b, .int .i64 o.c, .int .u64 o.x, .int .u64 o.y] 32)) (.cells #[.int .i64 0, .int .i64 0, .int .i64 0, .int .u64 0, .bool false, .int .i64 0, .int .i64 0, .int .u32 0, .int .u64 0, .int .u64 0, .int .u64 0, .int .u64 0, .int .u64 0, .int .u64 0, .slice none 0 0] 43)
    have bb := b1.trans (b2.mono b1.size)
    have hs : (w.alloc (.cells #[.int .u8 o.kd, .int .i64 o.a, .int .i64 o.b, .int .i64 o.c, .int .u64 o.x, .int .u64 o.y] 32)).heap.size = w.heap.size + 1 := by simp
    refine ⟨H.below bb, (op_new w o 32).blk (b2.block _ (by omega)), ?_, ((MFr.refl D V w).below bb).mw, ⟨H.off (Nat.le_refl _), H.off (by omega)⟩, Nat.le_trans hbw bb.size⟩
    rw [← hs]
    exact RowR.new _ _
  unfold opV
  go_enter Tryz.func77, Tryz.ntmps77
  go_upto_region 1 with fail
  generalize hW0 : World.alloc (w.alloc (.cells #[.int .u8 o.kd, .int .i64 o.a, .int .i64 o.b, .int .i64 o.c, .int .u64 o.x, .int .u64 o.y] 32)) (.cells #[.int .i64 0, .int .i64 0, .int .i64 0, .int .u64 0, .bool false, .int .i64 0, .int .i64 0, .int .u32 0, .int .u64 0, .int .u64 0, .int .u64 0, .int .u64 0, .int .u64 0, .int .u64 0, .slice none 0 0] 43) = wc at *
  clear hW0
  obtain ⟨H1, OP, R4, Mw, o45, hbs⟩ := hF
  have OP' := OP
  obtain ⟨g0, g1, g2, g3, g4, g5⟩ := OP'
  by_cases h0 : o.c < 0
  · have hn : ¬ (0 ≤ o.c ∧ o.c < 4294967296) := by omega
    have HN := hideIt hn
    clear hn
    have han := answer_r 7 wc
    go_wp2_with fail
    refine han.mono ?_
    rintro e w5 ⟨rfl, hb5⟩
    have R5 := R4.blk (hb5.block _ R4.lt)
    have hs43 := R5.store rfl (cs := (resCs 7 (-1) (-1) 0 false msg0 none 0 0)) rfl (resCs_one _ _ _ _ _ _ _ _ _)
    have HB5 := hideIt hb5
    clear han hb5
    go_wp2_with (first | (refine wpList_store_row rfl (.tmp 4) (.tmp 16) 43 rfl ⟨(w.heap.size + 1), 0, none⟩ (.agg (resCs 7 (-1) (-1) 0 false msg0 none 0 0)) rfl rfl hs43 ?_) | go_in)
    have H5 := (H1.below HB5.out).otherRow (b := (w.heap.size + 1)) (cs := (resCs 7 (-1) (-1) 0 false msg0 none 0 0)) n5D o45.2
    have M5 := (Mw.below HB5.out).row (b := (w.heap.size + 1)) (cs := (resCs 7 (-1) (-1) 0 false msg0 none 0 0)) (by omega)
    refine bodyPost_ret (v := .agg (resCs 7 (-1) (-1) 0 false msg0 none 0 0)) (results_cell_row rfl _ _ (w.heap.size + 1) 43 _ (0, 0) _ rfl R5.row Tryz.underlying43 rfl sz43) rfl ⟨V, 7, -1, m, rfl, .inl ⟨HN.out, rfl, rfl, rfl⟩, H5, M5.fr⟩
  by_cases h1 : 4294967296 ≤ o.c
  · have hn : ¬ (0 ≤ o.c ∧ o.c < 4294967296) := by omega
    have HN := hideIt hn
    clear hn
    have han := answer_r 7 wc
    go_wp2_with fail
    refine han.mono ?_
    rintro e w5 ⟨rfl, hb5⟩
    have R5 := R4.blk (hb5.block _ R4.lt)
    have hs43 := R5.store rfl (cs := (resCs 7 (-1) (-1) 0 false msg0 none 0 0)) rfl (resCs_one _ _ _ _ _ _ _ _ _)
    have HB5 := hideIt hb5
    clear han hb5
    go_wp2_with (first | (refine wpList_store_row rfl (.tmp 4) (.tmp 16) 43 rfl ⟨(w.heap.size + 1), 0, none⟩ (.agg (resCs 7 (-1) (-1) 0 false msg0 none 0 0)) rfl rfl hs43 ?_) | go_in)
    have H5 := (H1.below HB5.out).otherRow (b := (w.heap.size + 1)) (cs := (resCs 7 (-1) (-1) 0 false msg0 none 0 0)) n5D o45.2
    have M5 := (Mw.below HB5.out).row (b := (w.heap.size + 1)) (cs := (resCs 7 (-1) (-1) 0 false msg0 none 0 0)) (by omega)
    refine bodyPost_ret (v := .agg (resCs 7 (-1) (-1) 0 false msg0 none 0 0)) (results_cell_row rfl _ _ (w.heap.size + 1) 43 _ (0, 0) _ rfl R5.row Tryz.underlying43 rfl sz43) rfl ⟨V, 7, -1, m, rfl, .inl ⟨HN.out, rfl, rfl, rfl⟩, H5, M5.fr⟩
  have hoc : 0 ≤ o.c ∧ o.c < 4294967296 := by omega
  have HOC := hideIt hoc
  by_cases ha : 0 ≤ o.a ∧ o.a < 4
  · have hca := fun w => isCore_any o.a w
    rw [decide_eq_true ha] at hca
    by_cases hb : 0 ≤ o.b ∧ o.b < 4
    · have hcb := fun w => isCore_any o.b w
      rw [decide_eq_true hb] at hcb
      obtain ⟨x, ex⟩ : ∃ x : Nat, o.a = x := ⟨o.a.toNat, by omega⟩
      obtain ⟨y, ey⟩ : ∃ y : Nat, o.b = y := ⟨o.b.toNat, by omega⟩
      rw [ex] at g1 hca
      rw [ey] at g2 hcb
      have hx : x < 4 := by omega
      have hy : y < 4 := by omega
      have HXY := hideIt (And.intro ex ey)
      have hbox := fun w => box_any (w := w) hx hy
      have hb16 : x * 4 + y < 16 := by omega
      clear ex ey ha hb
      obtain ⟨s0, hown⟩ := H1.brow hb16
      obtain ⟨pv, cap, ev⟩ := own_shape hown
      rw [ev] at s0
      clear hown ev
      obtain ⟨n, hn⟩ : ∃ n, n = (m.bx (x * 4 + y)).length := ⟨_, rfl⟩
      rw [← hn] at s0
      have HN := hideIt hn
      have hnl : n ≤ 900 := by rw [hn]; exact hl _ hb16
      clear hn
      obtain ⟨b, hbe⟩ : ∃ b, b = x * 4 + y := ⟨_, rfl⟩
      rw [← hbe] at s0 hb16
      have hbox' := hbox
      rw [← hbe] at hbox'
      have HBE := hideIt hbe
      clear hbe hbox
      have b0 : (0 : Int) ≤ b := by omega
      have b1 : (b : Int) < 16 := by omega
      go_wp2_with fail
      refine (hca _).mono ?_
      rintro e wc ⟨rfl, rfl⟩
      go_wp2_with fail
      refine (hcb _).mono ?_
      rintro e wc ⟨rfl, rfl⟩
      go_upto_region 5 with fail
      refine wp_region_held_drew (S := (fun w' => w'.cell? ⟨w.heap.size, 1, none⟩ = some (.int .i64 (x : Int)) ∧ w'.cell? ⟨w.heap.size, 2, none⟩ = some (.int .i64 (y : Int)))) (by kernel_rfl) ⟨g1, g2⟩ (fun hHeld => ?_)
      refine wpAnyH_take (i := 0) (oi := { dst := some 28, op := Go.Op.fieldAddr 32 (Go.Operand.tmp 3) 1, type := 0, pos := _, after := #[], guard := none }) (v := ?vv1) rfl (by kernel_rfl) (by kernel_rfl) (by kernel_rfl) (fun _ _ _ h => h) (Or.inl ⟨by rfl, ?hy1⟩) (by assumption) ?tk1
      case hy1 => (intro w hSw; (try dsimp only at hSw); go_simp; (try with_reducible rfl))
      try simp only [Act.put, List.setIfInBounds_toArray, List.set_cons_zero, List.set_cons_succ]
      refine wpAnyH_take (i := 1) (oi := { dst := some 29, op := Go.Op.load 2 (Go.Operand.tmp 28), type := 2, pos := _, after := #[{ on := 0, ground := Go.Ground.data }], guard := none }) (v := ?vv2) rfl (by kernel_rfl) (by kernel_rfl) (by kernel_rfl) (fun _ _ _ h => h) (Or.inl ⟨by rfl, ?hy2⟩) (by assumption) ?tk2
      case hy2 => (intro w hSw; (try dsimp only at hSw); go_simp; (try with_reducible rfl))
      try simp only [Act.put, List.setIfInBounds_toArray, List.set_cons_zero, List.set_cons_succ]
      refine wpAnyH_take (i := 2) (oi := { dst := some 30, op := Go.Op.fieldAddr 32 (Go.Operand.tmp 3) 2, type := 0, pos := _, after := #[{ on := 4, ground := Go.Ground.gcOnly Go.Departure.lateStores }], guard := none }) (v := ?vv3) rfl (by kernel_rfl) (by kernel_rfl) (by kernel_rfl) (fun _ _ _ h => h) (Or.inl ⟨by rfl, ?hy3⟩) (by assumption) ?tk3
      case hy3 => (intro w hSw; (try dsimp only at hSw); go_simp; (try with_reducible rfl))
      try simp only [Act.put, List.setIfInBounds_toArray, List.set_cons_zero, List.set_cons_succ]
      refine wpAnyH_take (i := 3) (oi := { dst := some 31, op := Go.Op.load 2 (Go.Operand.tmp 30), type := 2, pos := _, after := #[{ on := 2, ground := Go.Ground.data }, { on := 4, ground := Go.Ground.gcOnly Go.Departure.lateStores }], guard := none }) (v := ?vv4) rfl (by kernel_rfl) (by kernel_rfl) (by kernel_rfl) (fun _ _ _ h => h) (Or.inl ⟨by rfl, ?hy4⟩) (by assumption) ?tk4
      case hy4 => (intro w hSw; (try dsimp only at hSw); go_simp; (try with_reducible rfl))
      try simp only [Act.put, List.setIfInBounds_toArray, List.set_cons_zero, List.set_cons_succ]
      refine wpAnyH_take (i := 4) (oi := { dst := some 5, op := Go.Op.assign (Go.Operand.tmp 29), type := 34, pos := _, after := #[{ on := 1, ground := Go.Ground.data }, { on := 0, ground := Go.Ground.phase }, { on := 1, ground := Go.Ground.phase }, { on := 2, ground := Go.Ground.textOnly Go.Departure.lateStores }, { on := 3, ground := Go.Ground.textOnly Go.Departure.lateStores }], guard := none }) (v := ?vv5) rfl (by kernel_rfl) (by kernel_rfl) (by kernel_rfl) (fun _ _ _ h => h) (Or.inl ⟨by rfl, ?hy5⟩) (by assumption) ?tk5
      case hy5 => (intro w hSw; (try dsimp only at hSw); go_simp; (try with_reducible rfl))
      try simp only [Act.put, List.setIfInBounds_toArray, List.set_cons_zero, List.set_cons_succ]
      refine wpAnyH_take (i := 5) (oi := { dst := some 6, op := Go.Op.assign (Go.Operand.tmp 31), type := 34, pos := _, after := #[{ on := 3, ground := Go.Ground.data }, { on := 4, ground := Go.Ground.chain }, { on := 0, ground := Go.Ground.phase }, { on := 1, ground := Go.Ground.phase }, { on := 2, ground := Go.Ground.phase }, { on := 3, ground := Go.Ground.phase }, { on := 4, ground := Go.Ground.phase }], guard := none }) (v := ?vv6) rfl (by kernel_rfl) (by kernel_rfl) (by kernel_rfl) (fun _ _ _ h => h) (Or.inl ⟨by rfl, ?hy6⟩) (by assumption) ?tk6
      case hy6 => (intro w hSw; (try dsimp only at hSw); go_simp; (try with_reducible rfl))
      try simp only [Act.put, List.setIfInBounds_toArray, List.set_cons_zero, List.set_cons_succ]
      refine wpAnyH_done (by kernel_rfl) ?_ _
      go_upto_region 6 with fail
      go_region_held3 (fun w' => w'.cell? ⟨D, 53 + b, none⟩ = some (.slice pv n cap)) (exact s0) (first | (go_at_call 96; refine (hbox' _).mono ?_; rintro e w1 ⟨rfl, rfl⟩))
      have H1' := H1.drew.drew
      have OP' : OpAt wc.drew.drew w.heap.size o := OP.blk rfl
      have R4' : RowR wc.drew.drew (w.heap.size + 1) #[.int .i64 0, .int .i64 0, .int .i64 0, .int .u64 0, .bool false, .int .i64 0, .int .i64 0, .int .u32 0, .int .u64 0, .int .u64 0, .int .u64 0, .int .u64 0, .int .u64 0, .int .u64 0, .slice none 0 0] := R4.blk rfl
      have Mw' := (Mw.below (below_dr (Below.refl _ _))).below (below_dr (Below.refl _ _))
      have hbs' : base ≤ wc.drew.drew.heap.size := hbs
      clear H1 OP R4 Mw hbs g0 g1 g2 g3 g4 g5 s0 hca hcb
      generalize wc.drew.drew = wc at *
      have H1 := H1'
      have R4 := R4'
      have Mw := Mw'
      by_cases h32 : n = 32
      · have e32 : ((n : Int) == 32) = true := by rw [h32]; rfl
        have HF : Hid ((m.bx (x * 4 + y)).length = 32) := hideIt (by rw [← HN.out]; exact h32)
        clear h32
        have han := answer_r 8 wc
        go_wp2_with fail
        refine han.mono ?_
        rintro e w5 ⟨rfl, hb5⟩
        have R5 := R4.blk (hb5.block _ R4.lt)
        have hs43 := R5.store rfl (cs := (resCs 8 (-1) (-1) 0 false msg0 none 0 0)) rfl (resCs_one _ _ _ _ _ _ _ _ _)
        have HB5 := hideIt hb5
        clear han hb5
        go_wp2_with (first | (refine wpList_store_row rfl (.tmp 4) (.tmp 42) 43 rfl ⟨(w.heap.size + 1), 0, none⟩ (.agg (resCs 8 (-1) (-1) 0 false msg0 none 0 0)) rfl rfl hs43 ?_) | go_in)
        have H5 := (H1.below HB5.out).otherRow (b := (w.heap.size + 1)) (cs := (resCs 8 (-1) (-1) 0 false msg0 none 0 0)) n5D o45.2
        have M5 := (Mw.below HB5.out).row (b := (w.heap.size + 1)) (cs := (resCs 8 (-1) (-1) 0 false msg0 none 0 0)) (by omega)
        refine bodyPost_ret (v := .agg (resCs 8 (-1) (-1) 0 false msg0 none 0 0)) (results_cell_row rfl _ _ (w.heap.size + 1) 43 _ (0, 0) _ rfl R5.row Tryz.underlying43 rfl sz43) rfl ⟨V, 8, -1, m, rfl, .inr ⟨HOC.out, .inr ⟨x, y, HXY.out.1, hx, HXY.out.2, hy, .inl ⟨HF.out, rfl, rfl, rfl⟩⟩⟩, H5, M5.fr⟩
      · have e32 : ((n : Int) == 32) = false := beq_eq_false_iff_ne.2 (by omega)
        have HF : Hid ((m.bx (x * 4 + y)).length ≠ 32) := hideIt (by rw [← HN.out]; exact h32)
        clear h32
        have hpo := mpost_any (x := x) (y := y) (o := o) H1 hbs' hx hy HOC.out (by rw [← HN.out]; exact hnl)
        unfold opV at hpo
        obtain ⟨g0, g1, g2, g3, g4, g5⟩ := OP'
        go_wp2_with fail
        refine hpo.mono ?_
        rintro e w5 ⟨V5, rfl, H5, F5⟩
        have R5 := R4.blk (F5.keep o45.2 R4.lt n5D)
        have M5 := Mw.then F5
        have o5 := F5.off o45.2 R4.lt
        have hl5 := R5.lt
        have HQ := hideIt (And.intro H5 (And.intro R5 (And.intro M5 o5)))
        clear hpo H5 F5 R5 M5 o5 H1 R4 Mw H1' R4' Mw' g0 g1 g2 g3 g4 g5
        go_upto_region 9 with fail
        go_cut [7] (fun a7 wd => ∃ b7 : Nat, a7 = .pointer (some ⟨b7, 0, none⟩) ∧ MdlAt wd D base V5 (m.post x y o) ∧ RowR wd b7 (resCs 0 (-1) (-1) 0 false msg0 none 0 0) ∧ RowR wd (w.heap.size + 1) #[.int .i64 0, .int .i64 0, .int .i64 0, .int .u64 0, .bool false, .int .i64 0, .int .i64 0, .int .u32 0, .int .u64 0, .int .u64 0, .int .u64 0, .int .u64 0, .int .u64 0, .int .u64 0, .slice none 0 0] ∧ MW D V V5 w wd ∧ (Off V5 b7 ∧ Off V5 (w.heap.size + 1)) ∧ (w.heap.size + 1) < b7)
        case first =>
          go_wp2_with fail
          refine (answer_any 0 w5).mono ?_
          rintro e w6 ⟨rfl, hb6⟩
          have hs6 := hb6.size
          have HB6 := hideIt hb6
          clear hb6
          unfold resV
          go_wp2
          go_meet
          case rel =>
            obtain ⟨H5, R5, M5, o5⟩ := HQ.out
            have b1 := one_alloc w6 (.cells (resCs 0 (-1) (-1) 0 false msg0 none 0 0) 43)
            have bb := HB6.out.trans (b1.mono hs6)
            exact ⟨w6.heap.size, rfl, H5.below bb, RowR.new w6 _, R5.blk (bb.block _ hl5), M5.below bb, ⟨H5.off (by omega), o5⟩, by omega⟩
        case rest =>
        clear HQ hl5
        obtain ⟨b7, rfl, H1, R7, R4, Mw, o75, h75⟩ := hcut
        have n7D : b7 ≠ D := by omega
        have q1 := R7.cell (j := 1) rfl
        have fz7 := R7.fz
        go_upto_region 10 with fail
        go_cut [] (fun wd => MdlAt wd D base V5 (m.post x y o) ∧ RowR wd b7 (resCs 0 (y : Int) (-1) 0 false msg0 none 0 0) ∧ RowR wd (w.heap.size + 1) #[.int .i64 0, .int .i64 0, .int .i64 0, .int .u64 0, .bool false, .int .i64 0, .int .i64 0, .int .u32 0, .int .u64 0, .int .u64 0, .int .u64 0, .int .u64 0, .int .u64 0, .int .u64 0, .slice none 0 0] ∧ MW D V V5 w wd ∧ (Off V5 b7 ∧ Off V5 (w.heap.size + 1)) ∧ (w.heap.size + 1) < b7)
        case first =>
          go_wp2
          go_meet
          case rel => exact ⟨H1.other n7D o75.1, R7.set, R4.blk (far_set (by omega)), Mw.set (by omega), o75, h75⟩
        case rest =>
        clear H1 R7 R4 Mw o75 h75 q1 fz7
        obtain ⟨H1, R7, R4, Mw, o75, h75⟩ := hcut
        have hl43 := R7.load rfl
        have hs43 := R4.store rfl (cs := (resCs 0 (y : Int) (-1) 0 false msg0 none 0 0)) rfl (resCs_one _ _ _ _ _ _ _ _ _)
        go_upto_region 11 with fail
        go_wp2_with (first | (refine wpList_load_row rfl (.tmp 7) 43 rfl ⟨b7, 0, none⟩ (.agg (resCs 0 (y : Int) (-1) 0 false msg0 none 0 0)) rfl hl43 ?_) | (refine wpList_store_row rfl (.tmp 4) (.tmp 51) 43 rfl ⟨(w.heap.size + 1), 0, none⟩ (.agg (resCs 0 (y : Int) (-1) 0 false msg0 none 0 0)) rfl rfl hs43 ?_) | go_in)
        refine bodyPost_ret (v := .agg (resCs 0 (y : Int) (-1) 0 false msg0 none 0 0)) (results_cell_row rfl _ _ (w.heap.size + 1) 43 _ (0, 0) _ rfl R4.row Tryz.underlying43 rfl sz43) rfl ⟨V5, 0, y, m.post x y o, rfl, .inr ⟨HOC.out, .inr ⟨x, y, HXY.out.1, hx, HXY.out.2, hy, .inr ⟨HF.out, rfl, rfl, rfl⟩⟩⟩, H1.otherRow n5D o75.2, (Mw.row (by omega)).fr⟩
    · have hcb := fun w => isCore_any o.b w
      rw [decide_eq_false hb] at hcb
      have HN := hideIt hb
      clear hb ha hoc
      go_wp2_with fail
      refine (hca _).mono ?_
      rintro e wc ⟨rfl, rfl⟩
      go_wp2_with fail
      refine (hcb _).mono ?_
      rintro e wc ⟨rfl, rfl⟩
      have han := answer_r 4 wc
      go_wp2_with fail
      refine han.mono ?_
      rintro e w5 ⟨rfl, hb5⟩
      have R5 := R4.blk (hb5.block _ R4.lt)
      have hs43 := R5.store rfl (cs := (resCs 4 (-1) (-1) 0 false msg0 none 0 0)) rfl (resCs_one _ _ _ _ _ _ _ _ _)
      have HB5 := hideIt hb5
      clear han hb5
      go_wp2_with (first | (refine wpList_store_row rfl (.tmp 4) (.tmp 27) 43 rfl ⟨(w.heap.size + 1), 0, none⟩ (.agg (resCs 4 (-1) (-1) 0 false msg0 none 0 0)) rfl rfl hs43 ?_) | go_in)
      have H5 := (H1.below HB5.out).otherRow (b := (w.heap.size + 1)) (cs := (resCs 4 (-1) (-1) 0 false msg0 none 0 0)) n5D o45.2
      have M5 := (Mw.below HB5.out).row (b := (w.heap.size + 1)) (cs := (resCs 4 (-1) (-1) 0 false msg0 none 0 0)) (by omega)
      refine bodyPost_ret (v := .agg (resCs 4 (-1) (-1) 0 false msg0 none 0 0)) (results_cell_row rfl _ _ (w.heap.size + 1) 43 _ (0, 0) _ rfl R5.row Tryz.underlying43 rfl sz43) rfl ⟨V, 4, -1, m, rfl, .inr ⟨HOC.out, .inl ⟨fun z => HN.out z.2, rfl, rfl, rfl⟩⟩, H5, M5.fr⟩
  · have hca := fun w => isCore_any o.a w
    rw [decide_eq_false ha] at hca
    have HN := hideIt ha
    clear ha hoc
    go_wp2_with fail
    refine (hca _).mono ?_
    rintro e wc ⟨rfl, rfl⟩
    have han := answer_r 4 wc
    go_wp2_with fail
    refine han.mono ?_
    rintro e w5 ⟨rfl, hb5⟩
    have R5 := R4.blk (hb5.block _ R4.lt)
    have hs43 := R5.store rfl (cs := (resCs 4 (-1) (-1) 0 false msg0 none 0 0)) rfl (resCs_one _ _ _ _ _ _ _ _ _)
    have HB5 := hideIt hb5
    clear han hb5
    go_wp2_with (first | (refine wpList_store_row rfl (.tmp 4) (.tmp 27) 43 rfl ⟨(w.heap.size + 1), 0, none⟩ (.agg (resCs 4 (-1) (-1) 0 false msg0 none 0 0)) rfl rfl hs43 ?_) | go_in)
    have H5 := (H1.below HB5.out).otherRow (b := (w.heap.size + 1)) (cs := (resCs 4 (-1) (-1) 0 false msg0 none 0 0)) n5D o45.2
    have M5 := (Mw.below HB5.out).row (b := (w.heap.size + 1)) (cs := (resCs 4 (-1) (-1) 0 false msg0 none 0 0)) (by omega)
    refine bodyPost_ret (v := .agg (resCs 4 (-1) (-1) 0 false msg0 none 0 0)) (results_cell_row rfl _ _ (w.heap.size + 1) 43 _ (0, 0) _ rfl R5.row Tryz.underlying43 rfl sz43) rfl ⟨V, 4, -1, m, rfl, .inr ⟨HOC.out, .inl ⟨fun z => HN.out z.1, rfl, rfl, rfl⟩⟩, H5, M5.fr⟩
end Go.Proofs.Qxb6500877aGreatDoor
