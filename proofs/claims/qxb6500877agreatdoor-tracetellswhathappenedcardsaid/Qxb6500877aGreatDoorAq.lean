import Derived.Deep.CutBlock
import Derived.OwnWalk
import Derived.Maps.AppendAt
import Derived.Test.Qxb6500877aGreatDoorAp
set_option linter.unusedVariables false
set_option linter.unusedSimpArgs false
namespace Go.Proofs.Qxb6500877aGreatDoor
open Go.RowKit

/-- The model behind the posts to the cores below k. -/
def bcTo (m : Mdl) (x : Nat) (o : OpS) : Nat → Mdl
  | 0 => m
  | k + 1 => if k = x then bcTo m x o k else (bcTo m x o k).post x k o
theorem bcTo_same {m : Mdl} {x : Nat} {o : OpS} {k : Nat} (h : k = x) : bcTo m x o (k + 1) = bcTo m x o k := if_pos h
theorem bcTo_post {m : Mdl} {x : Nat} {o : OpS} {k : Nat} (h : k ≠ x) : bcTo m x o (k + 1) = (bcTo m x o k).post x k o := if_neg h
theorem post_bx (m : Mdl) (x y : Nat) (o : OpS) (b : Nat) : ((m.post x y o).bx b).length ≤ (m.bx b).length + 1 := by
  show (upd m.bx (x * 4 + y) _ b).length ≤ _
  by_cases e : b = x * 4 + y
  · subst e; rw [upd_same, List.length_append]; exact Nat.le_refl _
  · rw [upd_other _ _ e]; omega
/-- A broadcast, in the model. -/
def BcM (m : Mdl) (o : OpS) (c co : Int) (m' : Mdl) : Prop :=
  (¬ (0 ≤ o.c ∧ o.c < 4294967296) ∧ c = 7 ∧ co = -1 ∧ m' = m) ∨ ((0 ≤ o.c ∧ o.c < 4294967296) ∧ ((¬ (0 ≤ o.a ∧ o.a < 4) ∧ c = 4 ∧ co = -1 ∧ m' = m) ∨ ∃ x : Nat, o.a = x ∧ x < 4 ∧ (((∃ k, k < 4 ∧ k ≠ x ∧ (m.bx (x * 4 + k)).length = 32) ∧ c = 8 ∧ co = -1 ∧ m' = m) ∨ ((∀ k, k < 4 → k ≠ x → (m.bx (x * 4 + k)).length ≠ 32) ∧ c = 0 ∧ co = x ∧ m' = bcTo m x o 4))))
set_option maxRecDepth 20000 in
set_option maxHeartbeats 8000000 in
theorem mbroadcast_any {w : World} {D base : Nat} {V : Nat → Value} {m : Mdl} {o : OpS} (H : MdlAt w D base V m) (hbw : base ≤ w.heap.size) (hl : ∀ b, b < 16 → (m.bx b).length ≤ 800) :
    Calls Tryz.prog 78 #[.pointer (some ⟨D, 0, none⟩), opV o] w fun e w' => ∃ V' c co m', e = .returned (.agg (resCs c co (-1) 0 false msg0 none 0 0)) ∧ BcM m o c co m' ∧ MdlAt w' D base V' m' ∧ MFr D V V' w w' := by
  have hDl := H.dlt
  have n4D : w.heap.size ≠ D := by omega
  have n5D : (w.heap.size + 1) ≠ D := by omega
  have hF : MdlAt (World.alloc (w.alloc (.cells #[.int .u8 o.kd, .int .i64 o.a, .int .i64 o.b, .int .i64 o.c, .int .u64 o.x, .int .u64 o.y] 32)) (.cells #[.int .i64 0, .int .i64 0, .int .i64 0, .int .u64 0, .bool false, .int .i64 0, .int .i64 0, .int .u32 0, .int .u64 0, .int .u64 0, .int .u64 0, .int .u64 0, .int .u64 0, .int .u64 0, .slice none 0 0] 43)) D base V m ∧ OpAt (World.alloc (w.alloc (.cells #[.int .u8 o.kd, .int .i64 o.a, .int .i64 o.b, .int .i64 o.c, .int .u64 o.x, .int .u64 o.y] 32)) (.cells #[.int .i64 0, .int .i64 0, .int .i64 0, .int .u64 0, .bool false, .int .i64 0, .int .i64 0, .int .u32 0, .int .u64 0, .int .u64 0, .int .u64 0, .int .u64 0, .int .u64 0, .int .u64 0, .slice none 0 0] 43)) w.heap.size o ∧ RowR (World.alloc (w.alloc (.cells #[.int .u8 o.kd, .int .i64 o.a, .int .i64 o.b, .int .i64 o.c, .int .u64 o.x, .int .u64 o.y] 32)) (.cells #[.int .i64 0, .int .i64 0, .int .i64 0, .int .u64 0, .bool false, .int .i64 0, .int .i64 0, .int .u32 0, .int .u64 0, .int .u64 0, .int .u64 0, .int .u64 0, .int .u64 0, .int .u64 0, .slice none 0 0] 43)) (w.heap.size + 1) #[.int .i64 0, .int .i64 0, .int .i64 0, .int .u64 0, .bool false, .int .i64 0, .int .i64 0, .int .u32 0, .int .u64 0, .int .u64 0, .int .u64 0, .int .u64 0, .int .u64 0, .int .u64 0, .slice none 0 0] ∧ MW D V V w (World.alloc (w.alloc (.cells #[.int .u8 o.kd, .int .i64 o.a, .int .i64 o.b, .int .i64 o.c, .int .u64 o.x, .int .u64 o.y] 32)) (.cells #[.int .i64 0, .int .i64 0, .int .i64 0, .int .u64 0, .bool false, .int .i64 0, .int .i64 0, .int .u32 0, .int .u64 0, .int .u64 0, .int .u64 0, .int .u64 0, .int .u64 0, .int .u64 0, .slice none 0 0] 43)) ∧ (Off V w.heap.size ∧ Off V (w.heap.size + 1)) ∧ base ≤ (World.alloc (w.alloc (.cells #[.int .u8 o.kd, .int .i64 o.a, .int .i64 o.b, .int .i64 o.c, .int .u64 o.x, .int .u64 o.y] 32)) (.cells #[.int .i64 0, .int .i64 0, .int .i64 0, .int .u64 0, .bool false, .int .i64 0, .int .i64 0, .int .u32 0, .int .u64 0, .int .u64 0, .int .u64 0, .int .u64 0, .int .u64 0, .int .u64 0, .slice none 0 0] 43)).heap.size := by
    have b1 := one_alloc w (.cells #[.int .u8 o.kd, .int .i64 o.a, .int .i64 o.b, .int .i64 o.c, .int .u64 o.x, .int .u64 o.y] 32)
    have b2 := one_alloc (w.alloc (.cells #[.int .u8 o.kd, .int .i64 o.a, .int .i64 o.b, .int .i64 o.c, .int .u64 o.x, .int .u64 o.y] 32)) (.cells #[.int .i64 0, .int .i64 0, .int .i64 0, .int .u64 0, .bool false, .int .i64 0, .int .i64 0, .int .u32 0, .int .u64 0, .int .u64 0, .int .u64 0, .int .u64 0, .int .u64 0, .int .u64 0, .slice none 0 0] 43)
    have bb := b1.trans (b2.mono b1.size)
    have hs : (w.alloc (.cells #[.int .u8 o.kd, .int .i64 o.a, .int .i64 o.b, .int .i64 o.c, .int .u64 o.x, .int .u64 o.y] 32)).heap.size = w.heap.size + 1 := by simp
    refine ⟨H.below bb, (op_new w o 32).blk (b2.block _ (by omega)), ?_, ((MFr.refl D V w).below bb).mw, ⟨H.off (Nat.le_refl _), H.off (by omega)⟩, Nat.le_trans hbw bb.size⟩
    rw [← hs]
    exact RowR.new _ _
  unfold opV
  go_enter Tryz.func78, Tryz.ntmps78
  go_upto_region 1 with fail
  generalize hW0 : World.alloc (w.alloc (.cells #[.int .u8 o.kd, .int .i64 o.a, .int .i64 o.b, .int .i64 o.c, .int .u64 o.x, .int .u64 o.y] 32)) (.cells #[.int .i64 0, .int .i64 0, .int .i64 0, .int .u64 0, .bool false, .int .i64 0, .int .i64 0, .int .u32 0, .int .u64 0, .int .u64 0, .int .u64 0, .int .u64 0, .int .u64 0, .int .u64 0, .slice none 0 0] 43) = wc at *
  clear hW0
  obtain ⟨H1, OP, R4, Mw, o45, hbs⟩ := hF
  have OP' := OP
  obtain ⟨g0, g1, g2, g3, g4, g5⟩ := OP'
  by_cases h0 : o.c < 0
  · have hn : ¬ (0 ≤ o.c ∧ o.c < 4294967296) := by omega
    have HN := hideIt hn
    clear hn
    have han := answer_r 7 wc
    go_wp2_with fail
    refine han.mono ?_
    rintro e w5 ⟨rfl, hb5⟩
    have R5 := R4.blk (hb5.block _ R4.lt)
    have hs43 := R5.store rfl (cs := (resCs 7 (-1) (-1) 0 false msg0 none 0 0)) rfl (resCs_one _ _ _ _ _ _ _ _ _)
    have HB5 := hideIt hb5
    clear han hb5
    go_wp2_with (first | (refine wpList_store_row rfl (.tmp 4) (.tmp 17) 43 rfl ⟨(w.heap.size + 1), 0, none⟩ (.agg (resCs 7 (-1) (-1) 0 false msg0 none 0 0)) rfl rfl hs43 ?_) | go_in)
    have H5 := (H1.below HB5.out).otherRow (b := (w.heap.size + 1)) (cs := (resCs 7 (-1) (-1) 0 false msg0 none 0 0)) n5D o45.2
    have M5 := (Mw.below HB5.out).row (b := (w.heap.size + 1)) (cs := (resCs 7 (-1) (-1) 0 false msg0 none 0 0)) (by omega)
    refine bodyPost_ret (v := .agg (resCs 7 (-1) (-1) 0 false msg0 none 0 0)) (results_cell_row rfl _ _ (w.heap.size + 1) 43 _ (0, 0) _ rfl R5.row Tryz.underlying43 rfl sz43) rfl ⟨V, 7, -1, m, rfl, .inl ⟨HN.out, rfl, rfl, rfl⟩, H5, M5.fr⟩
  by_cases h1 : 4294967296 ≤ o.c
  · have hn : ¬ (0 ≤ o.c ∧ o.c < 4294967296) := by omega
    have HN := hideIt hn
    clear hn
    have han := answer_r 7 wc
    go_wp2_with fail
    refine han.mono ?_
    rintro e w5 ⟨rfl, hb5⟩
    have R5 := R4.blk (hb5.block _ R4.lt)
    have hs43 := R5.store rfl (cs := (resCs 7 (-1) (-1) 0 false msg0 none 0 0)) rfl (resCs_one _ _ _ _ _ _ _ _ _)
    have HB5 := hideIt hb5
    clear han hb5
    go_wp2_with (first | (refine wpList_store_row rfl (.tmp 4) (.tmp 17) 43 rfl ⟨(w.heap.size + 1), 0, none⟩ (.agg (resCs 7 (-1) (-1) 0 false msg0 none 0 0)) rfl rfl hs43 ?_) | go_in)
    have H5 := (H1.below HB5.out).otherRow (b := (w.heap.size + 1)) (cs := (resCs 7 (-1) (-1) 0 false msg0 none 0 0)) n5D o45.2
    have M5 := (Mw.below HB5.out).row (b := (w.heap.size + 1)) (cs := (resCs 7 (-1) (-1) 0 false msg0 none 0 0)) (by omega)
    refine bodyPost_ret (v := .agg (resCs 7 (-1) (-1) 0 false msg0 none 0 0)) (results_cell_row rfl _ _ (w.heap.size + 1) 43 _ (0, 0) _ rfl R5.row Tryz.underlying43 rfl sz43) rfl ⟨V, 7, -1, m, rfl, .inl ⟨HN.out, rfl, rfl, rfl⟩, H5, M5.fr⟩
  have hoc : 0 ≤ o.c ∧ o.c < 4294967296 := by omega
  have HOC := hideIt hoc
  by_cases ha : 0 ≤ o.a ∧ o.a < 4
  · have hca := fun w => isCore_any o.a w
    rw [decide_eq_true ha] at hca
    obtain ⟨x, ex⟩ : ∃ x : Nat, o.a = x := ⟨o.a.toNat, by omega⟩
    rw [ex] at g1 hca
    have hx : x < 4 := by omega
    have HX := hideIt ex
    clear ex ha hoc
    go_wp2_with fail
    refine (hca _).mono ?_
    rintro e wc ⟨rfl, rfl⟩
    go_upto_region 6 with fail
    have hcutF : MdlAt wc D base V m ∧ OpAt wc w.heap.size o ∧ RowR wc (w.heap.size + 1) #[.int .i64 0, .int .i64 0, .int .i64 0, .int .u64 0, .bool false, .int .i64 0, .int .i64 0, .int .u32 0, .int .u64 0, .int .u64 0, .int .u64 0, .int .u64 0, .int .u64 0, .int .u64 0, .slice none 0 0] ∧ MW D V V w wc ∧ (Off V w.heap.size ∧ Off V (w.heap.size + 1)) ∧ base ≤ wc.heap.size := ⟨H1, OP, R4, Mw, o45, hbs⟩
    clear H1 OP R4 Mw o45 hbs g0 g1 g2 g3 g4 g5 hca
    go_wp2_with fail
    go_loopg [6] 4 (fun g v wr => ∃ k : Nat, k + g = 4 ∧ v = .int .i64 (k : Int) ∧ Hid (∀ j, j < k → j ≠ x → (m.bx (x * 4 + j)).length ≠ 32) ∧ MdlAt wr D base V m ∧ OpAt wr w.heap.size o ∧ RowR wr (w.heap.size + 1) #[.int .i64 0, .int .i64 0, .int .i64 0, .int .u64 0, .bool false, .int .i64 0, .int .i64 0, .int .u32 0, .int .u64 0, .int .u64 0, .int .u64 0, .int .u64 0, .int .u64 0, .int .u64 0, .slice none 0 0] ∧ MW D V V w wr ∧ (Off V w.heap.size ∧ Off V (w.heap.size + 1)) ∧ base ≤ wr.heap.size)
    case atStart => exact ⟨0, by omega, rfl, hideIt (fun j hj => by omega), hcutF⟩
    case round =>
      clear hcutF
      obtain ⟨k, hk, rfl, HJ, H1, OP, R4, Mw, o45, hbs⟩ := hrel
      by_cases h4 : k < 4
      · have hk4 : (k : Int) < 4 := by omega
        by_cases hka : k = x
        · have hkb : ((k : Int) != (x : Int)) = false := by simp [hka]
          go_wp2_with fail
          refine wp_region_held_drew (S := (fun _ => True)) (by kernel_rfl) trivial (fun hHeld => ?_)
          refine wpAnyH_take (i := 0) (oi := { dst := some 29, op := Go.Op.move (Go.Operand.tmp 6), type := 34, pos := _, after := #[], guard := none }) (v := ?vv1) rfl (by kernel_rfl) (by kernel_rfl) (by kernel_rfl) (fun _ _ _ h => h) (Or.inl ⟨by rfl, ?hy1⟩) (by assumption) ?tk1
          case hy1 => (intro w hSw; (try dsimp only at hSw); go_simp; (try with_reducible rfl))
          try simp only [Act.put, List.setIfInBounds_toArray, List.set_cons_zero, List.set_cons_succ]
          refine wpAnyH_take (i := 1) (oi := { dst := some 30, op := Go.Op.move (Go.Operand.tmp 5), type := 34, pos := _, after := #[], guard := none }) (v := ?vv2) rfl (by kernel_rfl) (by kernel_rfl) (by kernel_rfl) (fun _ _ _ h => h) (Or.inl ⟨by rfl, ?hy2⟩) (by assumption) ?tk2
          case hy2 => (intro w hSw; (try dsimp only at hSw); go_simp; (try with_reducible rfl))
          try simp only [Act.put, List.setIfInBounds_toArray, List.set_cons_zero, List.set_cons_succ]
          refine wpAnyH_take (i := 2) (oi := { dst := some 31, op := Go.Op.binOp Go.BinOp.neq 34 (Go.Operand.tmp 29) (Go.Operand.tmp 30) 34, type := 4, pos := _, after := #[{ on := 0, ground := Go.Ground.data }, { on := 1, ground := Go.Ground.data }], guard := none }) (v := ?vv3) rfl (by kernel_rfl) (by kernel_rfl) (by kernel_rfl) (fun _ _ _ h => h) (Or.inl ⟨by rfl, ?hy3⟩) (by assumption) ?tk3
          case hy3 => (intro w hSw; (try dsimp only at hSw); go_simp; (try with_reducible rfl))
          try simp only [Act.put, List.setIfInBounds_toArray, List.set_cons_zero, List.set_cons_succ]
          refine wpAnyH_take (i := 3) (oi := { dst := some 32, op := Go.Op.move (Go.Operand.tmp 31), type := 4, pos := _, after := #[{ on := 2, ground := Go.Ground.data }], guard := none }) (v := ?vv4) rfl (by kernel_rfl) (by kernel_rfl) (by kernel_rfl) (fun _ _ _ h => h) (Or.inl ⟨by rfl, ?hy4⟩) (by assumption) ?tk4
          case hy4 => (intro w hSw; (try dsimp only at hSw); go_simp; (try with_reducible rfl))
          try simp only [Act.put, List.setIfInBounds_toArray, List.set_cons_zero, List.set_cons_succ]
          refine wpAnyH_take (i := 4) (oi := { dst := some 33, op := Go.Op.move (Go.Operand.tmp 0), type := 26, pos := _, after := #[{ on := 3, ground := Go.Ground.guard }], guard := some (3, true) }) (v := undef) rfl (by kernel_rfl) (by kernel_rfl) (by kernel_rfl) (fun _ _ _ h => h) (Or.inr ⟨by rfl, rfl⟩) (by assumption) ?tk5
          try simp only [Act.put, List.setIfInBounds_toArray, List.set_cons_zero, List.set_cons_succ]
          refine wpAnyH_take (i := 5) (oi := { dst := some 34, op := Go.Op.move (Go.Operand.tmp 5), type := 34, pos := _, after := #[{ on := 3, ground := Go.Ground.guard }], guard := some (3, true) }) (v := undef) rfl (by kernel_rfl) (by kernel_rfl) (by kernel_rfl) (fun _ _ _ h => h) (Or.inr ⟨by rfl, rfl⟩) (by assumption) ?tk6
          try simp only [Act.put, List.setIfInBounds_toArray, List.set_cons_zero, List.set_cons_succ]
          refine wpAnyH_take (i := 6) (oi := { dst := some 35, op := Go.Op.move (Go.Operand.tmp 6), type := 34, pos := _, after := #[{ on := 3, ground := Go.Ground.guard }], guard := some (3, true) }) (v := undef) rfl (by kernel_rfl) (by kernel_rfl) (by kernel_rfl) (fun _ _ _ h => h) (Or.inr ⟨by rfl, rfl⟩) (by assumption) ?tk7
          try simp only [Act.put, List.setIfInBounds_toArray, List.set_cons_zero, List.set_cons_succ]
          refine wpAnyH_take (i := 7) (oi := { dst := some 36, op := Go.Op.call { callee := Go.Callee.value (Go.Operand.func 96), args := #[Go.Operand.tmp 34, Go.Operand.tmp 35], argTypes := #[34, 34] }, type := 65, pos := _, after := #[{ on := 5, ground := Go.Ground.data }, { on := 6, ground := Go.Ground.data }, { on := 3, ground := Go.Ground.chain }, { on := 3, ground := Go.Ground.guard }], guard := some (3, true) }) (v := undef) rfl (by kernel_rfl) (by kernel_rfl) (by kernel_rfl) (fun _ _ _ h => h) (Or.inr ⟨by rfl, rfl⟩) (by assumption) ?tk8
          try simp only [Act.put, List.setIfInBounds_toArray, List.set_cons_zero, List.set_cons_succ]
          refine wpAnyH_take (i := 8) (oi := { dst := some 37, op := Go.Op.nilCheck (Go.Operand.tmp 33), type := 0, pos := _, after := #[{ on := 4, ground := Go.Ground.data }, { on := 3, ground := Go.Ground.guard }], guard := some (3, true) }) (v := undef) rfl (by kernel_rfl) (by kernel_rfl) (by kernel_rfl) (fun _ _ _ h => h) (Or.inr ⟨by rfl, rfl⟩) (by assumption) ?tk9
          try simp only [Act.put, List.setIfInBounds_toArray, List.set_cons_zero, List.set_cons_succ]
          refine wpAnyH_take (i := 9) (oi := { dst := some 38, op := Go.Op.fieldAddr 135 (Go.Operand.tmp 37) 3, type := 0, pos := _, after := #[{ on := 8, ground := Go.Ground.data }, { on := 3, ground := Go.Ground.guard }], guard := some (3, true) }) (v := undef) rfl (by kernel_rfl) (by kernel_rfl) (by kernel_rfl) (fun _ _ _ h => h) (Or.inr ⟨by rfl, rfl⟩) (by assumption) ?tk10
          try simp only [Act.put, List.setIfInBounds_toArray, List.set_cons_zero, List.set_cons_succ]
          refine wpAnyH_take (i := 10) (oi := { dst := some 39, op := Go.Op.indexAddr 57 (Go.Operand.tmp 38) (Go.Operand.tmp 36), type := 0, pos := _, after := #[{ on := 9, ground := Go.Ground.data }, { on := 7, ground := Go.Ground.data }, { on := 3, ground := Go.Ground.guard }], guard := some (3, true) }) (v := undef) rfl (by kernel_rfl) (by kernel_rfl) (by kernel_rfl) (fun _ _ _ h => h) (Or.inr ⟨by rfl, rfl⟩) (by assumption) ?tk11
          try simp only [Act.put, List.setIfInBounds_toArray, List.set_cons_zero, List.set_cons_succ]
          refine wpAnyH_take (i := 11) (oi := { dst := some 40, op := Go.Op.load 56 (Go.Operand.tmp 39), type := 56, pos := _, after := #[{ on := 10, ground := Go.Ground.data }, { on := 3, ground := Go.Ground.guard }], guard := some (3, true) }) (v := undef) rfl (by kernel_rfl) (by kernel_rfl) (by kernel_rfl) (fun _ _ _ h => h) (Or.inr ⟨by rfl, rfl⟩) (by assumption) ?tk12
          try simp only [Act.put, List.setIfInBounds_toArray, List.set_cons_zero, List.set_cons_succ]
          refine wpAnyH_take (i := 12) (oi := { dst := some 41, op := Go.Op.call { callee := Go.Callee.builtin Go.Builtin.len, args := #[Go.Operand.tmp 40], argTypes := #[56] }, type := 3, pos := _, after := #[{ on := 11, ground := Go.Ground.data }, { on := 3, ground := Go.Ground.guard }], guard := some (3, true) }) (v := undef) rfl (by kernel_rfl) (by kernel_rfl) (by kernel_rfl) (fun _ _ _ h => h) (Or.inr ⟨by rfl, rfl⟩) (by assumption) ?tk13
          try simp only [Act.put, List.setIfInBounds_toArray, List.set_cons_zero, List.set_cons_succ]
          refine wpAnyH_take (i := 13) (oi := { dst := some 42, op := Go.Op.binOp Go.BinOp.eql 3 (Go.Operand.tmp 41) (Go.Operand.const (Go.Value.int Go.IntKind.i64 32)) 3, type := 4, pos := _, after := #[{ on := 12, ground := Go.Ground.data }, { on := 3, ground := Go.Ground.guard }], guard := some (3, true) }) (v := undef) rfl (by kernel_rfl) (by kernel_rfl) (by kernel_rfl) (fun _ _ _ h => h) (Or.inr ⟨by rfl, rfl⟩) (by assumption) ?tk14
          try simp only [Act.put, List.setIfInBounds_toArray, List.set_cons_zero, List.set_cons_succ]
          refine wpAnyH_take (i := 14) (oi := { dst := some 43, op := Go.Op.pick (Go.Operand.tmp 32) (Go.Operand.tmp 42) (Go.Operand.const (Go.Value.bool false)), type := 4, pos := _, after := #[{ on := 3, ground := Go.Ground.data }, { on := 13, ground := Go.Ground.data }], guard := none }) (v := ?vv15) rfl (by kernel_rfl) (by kernel_rfl) (by kernel_rfl) (fun _ _ _ h => h) (Or.inl ⟨by rfl, ?hy15⟩) (by assumption) ?tk15
          case hy15 => (intro w hSw; (try dsimp only at hSw); go_simp; (try with_reducible rfl))
          try simp only [Act.put, List.setIfInBounds_toArray, List.set_cons_zero, List.set_cons_succ]
          refine wpAnyH_done (by kernel_rfl) ?_ _
          go_wp2
          go_roundg (4 - (k + 1))
          case measure => omega
          case rel => exact ⟨k + 1, by omega, by go_num, hideIt (fun j hj hja => HJ.out j (by omega) hja), H1.drew, OP.blk rfl, R4.blk rfl, Mw.below (below_dr (Below.refl _ _)), o45, hbs⟩
        · have hkb : ((k : Int) != (x : Int)) = true := by simp; omega
          have hi : x * 4 + k < 16 := by omega
          have hbx := fun w => @box_any w x k hx h4
          obtain ⟨s0, hown⟩ := H1.brow hi
          obtain ⟨pv, cap, ev⟩ := own_shape hown
          rw [ev] at s0
          clear hown ev
          obtain ⟨n, hn⟩ : ∃ n, n = (m.bx (x * 4 + k)).length := ⟨_, rfl⟩
          rw [← hn] at s0
          have HN := hideIt hn
          clear hn
          obtain ⟨b, hbe⟩ : ∃ b, b = x * 4 + k := ⟨_, rfl⟩
          rw [← hbe] at s0 hi hbx
          have HBE := hideIt hbe
          clear hbe
          have b0 : (0 : Int) ≤ b := by omega
          have b1 : (b : Int) < 16 := by omega
          by_cases h32 : n = 32
          · have e32 : ((n : Int) == 32) = true := by rw [h32]; rfl
            have HF : Hid ((m.bx (x * 4 + k)).length = 32) := hideIt (by rw [← HN.out]; exact h32)
            clear h32
            go_wp2_with fail
            go_region_held3 (fun w' => w'.cell? ⟨D, 53 + b, none⟩ = some (.slice pv n cap)) (exact s0) (first | (go_at_call 96; refine (hbx _).mono ?_; rintro e w1 ⟨rfl, rfl⟩))
            have H1' := H1.drew
            have R4' : RowR wr.drew (w.heap.size + 1) #[.int .i64 0, .int .i64 0, .int .i64 0, .int .u64 0, .bool false, .int .i64 0, .int .i64 0, .int .u32 0, .int .u64 0, .int .u64 0, .int .u64 0, .int .u64 0, .int .u64 0, .int .u64 0, .slice none 0 0] := R4.blk rfl
            have Mw' := Mw.below (below_dr (Below.refl _ _))
            clear H1 OP R4 Mw hbs s0 hbx
            generalize wr.drew = wc at *
            have H1 := H1'
            have R4 := R4'
            have Mw := Mw'
            have han := answer_r 8 wc
            go_wp2_with fail
            refine han.mono ?_
            rintro e w5 ⟨rfl, hb5⟩
            have R5 := R4.blk (hb5.block _ R4.lt)
            have hs43 := R5.store rfl (cs := (resCs 8 (-1) (-1) 0 false msg0 none 0 0)) rfl (resCs_one _ _ _ _ _ _ _ _ _)
            have HB5 := hideIt hb5
            clear han hb5
            go_wp2_with (first | (refine wpList_store_row rfl (.tmp 4) (.tmp 44) 43 rfl ⟨(w.heap.size + 1), 0, none⟩ (.agg (resCs 8 (-1) (-1) 0 false msg0 none 0 0)) rfl rfl hs43 ?_) | go_in)
            have H5 := (H1.below HB5.out).otherRow (b := (w.heap.size + 1)) (cs := (resCs 8 (-1) (-1) 0 false msg0 none 0 0)) n5D o45.2
            have M5 := (Mw.below HB5.out).row (b := (w.heap.size + 1)) (cs := (resCs 8 (-1) (-1) 0 false msg0 none 0 0)) (by omega)
            refine bodyPost_ret (v := .agg (resCs 8 (-1) (-1) 0 false msg0 none 0 0)) (results_cell_row rfl _ _ (w.heap.size + 1) 43 _ (0, 0) _ rfl R5.row Tryz.underlying43 rfl sz43) rfl ⟨V, 8, -1, m, rfl, .inr ⟨HOC.out, .inr ⟨x, HX.out, hx, .inl ⟨⟨k, h4, hka, HF.out⟩, rfl, rfl, rfl⟩⟩⟩, H5, M5.fr⟩
          · have e32 : ((n : Int) == 32) = false := beq_eq_false_iff_ne.2 (by omega)
            have HF : Hid ((m.bx (x * 4 + k)).length ≠ 32) := hideIt (by rw [← HN.out]; exact h32)
            clear h32
            go_wp2_with fail
            go_region_held3 (fun w' => w'.cell? ⟨D, 53 + b, none⟩ = some (.slice pv n cap)) (exact s0) (first | (go_at_call 96; refine (hbx _).mono ?_; rintro e w1 ⟨rfl, rfl⟩))
            go_wp2
            go_roundg (4 - (k + 1))
            case measure => omega
            case rel =>
              refine ⟨k + 1, by omega, by go_num, hideIt (fun j hj hja => ?_), H1.drew, OP.blk rfl, R4.blk rfl, Mw.below (below_dr (Below.refl _ _)), o45, hbs⟩
              by_cases hjk : j = k
              · rw [hjk]; exact HF.out
              · exact HJ.out j (by omega) hja
      · have hk' : k = 4 := by omega
        subst hk'
        have hcutF : MdlAt wr D base V m ∧ OpAt wr w.heap.size o ∧ RowR wr (w.heap.size + 1) #[.int .i64 0, .int .i64 0, .int .i64 0, .int .u64 0, .bool false, .int .i64 0, .int .i64 0, .int .u32 0, .int .u64 0, .int .u64 0, .int .u64 0, .int .u64 0, .int .u64 0, .int .u64 0, .slice none 0 0] ∧ MW D V V w wr ∧ (Off V w.heap.size ∧ Off V (w.heap.size + 1)) ∧ base ≤ wr.heap.size := ⟨H1, OP, R4, Mw, o45, hbs⟩
        clear H1 OP R4 Mw o45 hbs
        go_wp2_with fail
        go_loopg [7] 4 (fun g v wr => ∃ (k : Nat) (V2 : Nat → Value), k + g = 4 ∧ v = .int .i64 (k : Int) ∧ Hid (∀ b, b < 16 → ((bcTo m x o k).bx b).length ≤ 800 + k) ∧ MdlAt wr D base V2 (bcTo m x o k) ∧ OpAt wr w.heap.size o ∧ RowR wr (w.heap.size + 1) #[.int .i64 0, .int .i64 0, .int .i64 0, .int .u64 0, .bool false, .int .i64 0, .int .i64 0, .int .u32 0, .int .u64 0, .int .u64 0, .int .u64 0, .int .u64 0, .int .u64 0, .int .u64 0, .slice none 0 0] ∧ MW D V V2 w wr ∧ (Off V2 w.heap.size ∧ Off V2 (w.heap.size + 1)) ∧ base ≤ wr.heap.size)
        case atStart => exact ⟨0, V, by omega, rfl, hideIt hl, hcutF⟩
        case round =>
          clear hcutF
          obtain ⟨k, V2, hk, rfl, HL, H1, OP, R4, Mw, o45, hbs⟩ := hrel
          by_cases h4 : k < 4
          · have hk4 : (k : Int) < 4 := by omega
            by_cases hka : k = x
            · have hkb : ((k : Int) != (x : Int)) = false := by simp [hka]
              have HK := hideIt hka
              clear hka
              go_wp2
              go_roundg (4 - (k + 1))
              case measure => omega
              case rel =>
                refine ⟨k + 1, V2, by omega, by go_num, hideIt (fun b hb => ?_), ?_, OP, R4, Mw, o45, hbs⟩
                · rw [bcTo_same HK.out]; have := HL.out b hb; omega
                · rw [bcTo_same HK.out]; exact H1
            · have hkb : ((k : Int) != (x : Int)) = true := by simp; omega
              have HK := hideIt hka
              clear hka
              have hpo := mpost_any (x := x) (y := k) (o := o) H1 hbs hx h4 HOC.out (by have := HL.out (x * 4 + k) (by omega); omega)
              unfold opV at hpo
              obtain ⟨g0, g1, g2, g3, g4, g5⟩ := OP
              go_wp2_with fail
              refine hpo.mono ?_
              rintro e w5 ⟨V5, rfl, H5, F5⟩
              have R5 := R4.blk (F5.keep o45.2 R4.lt n5D)
              have O5 : OpAt w5 w.heap.size o := OpAt.blk ⟨g0, g1, g2, g3, g4, g5⟩ (F5.keep o45.1 (World.block_lt_of_cell? _ _ g0) n4D)
              have M5 := Mw.then F5
              have o5 : Off V5 w.heap.size ∧ Off V5 (w.heap.size + 1) := ⟨F5.off o45.1 (World.block_lt_of_cell? _ _ g0), F5.off o45.2 R4.lt⟩
              have b5 := Nat.le_trans hbs F5.size
              have HQ := hideIt (And.intro H5 (And.intro O5 (And.intro R5 (And.intro M5 (And.intro o5 b5)))))
              clear hpo H5 F5 R5 O5 M5 o5 b5 H1 R4 Mw g0 g1 g2 g3 g4 g5
              go_wp2
              go_roundg (4 - (k + 1))
              case measure => omega
              case rel =>
                obtain ⟨H5, O5, R5, M5, o5, b5⟩ := HQ.out
                refine ⟨k + 1, V5, by omega, by go_num, hideIt (fun b hb => ?_), ?_, O5, R5, M5, o5, b5⟩
                · rw [bcTo_post HK.out]; have := HL.out b hb; have := post_bx (bcTo m x o k) x k o b; omega
                · rw [bcTo_post HK.out]; exact H5
          · have hk' : k = 4 := by omega
            subst hk'
            obtain ⟨mf, hmf⟩ : ∃ mf, mf = bcTo m x o 4 := ⟨_, rfl⟩
            rw [← hmf] at H1
            have HMF := hideIt hmf
            have hl5 := R4.lt
            have HQ := hideIt (And.intro H1 (And.intro R4 (And.intro Mw o45.2)))
            clear hmf HL H1 R4 Mw OP o45
            go_upto_region 16 with fail
            go_cut [8] (fun a8 wd => ∃ b8 : Nat, a8 = .pointer (some ⟨b8, 0, none⟩) ∧ MdlAt wd D base V2 mf ∧ RowR wd b8 (resCs 0 (-1) (-1) 0 false msg0 none 0 0) ∧ RowR wd (w.heap.size + 1) #[.int .i64 0, .int .i64 0, .int .i64 0, .int .u64 0, .bool false, .int .i64 0, .int .i64 0, .int .u32 0, .int .u64 0, .int .u64 0, .int .u64 0, .int .u64 0, .int .u64 0, .int .u64 0, .slice none 0 0] ∧ MW D V V2 w wd ∧ (Off V2 b8 ∧ Off V2 (w.heap.size + 1)) ∧ (w.heap.size + 1) < b8)
            case first =>
              go_wp2_with fail
              refine (answer_any 0 _).mono ?_
              rintro e w6 ⟨rfl, hb6⟩
              have hs6 := hb6.size
              have HB6 := hideIt hb6
              clear hb6
              unfold resV
              go_wp2
              go_meet
              case rel =>
                obtain ⟨H5, R5, M5, o5⟩ := HQ.out
                have b1 := one_alloc w6 (.cells (resCs 0 (-1) (-1) 0 false msg0 none 0 0) 43)
                have bb := HB6.out.trans (b1.mono hs6)
                exact ⟨w6.heap.size, rfl, H5.below bb, RowR.new w6 _, R5.blk (bb.block _ hl5), M5.below bb, ⟨H5.off (by omega), o5⟩, by omega⟩
            case rest =>
            clear HQ hl5
            obtain ⟨b8, rfl, H1, R7, R4, Mw, o75, h75⟩ := hcut
            have n7D : b8 ≠ D := by omega
            have q1 := R7.cell (j := 1) rfl
            have fz7 := R7.fz
            go_upto_region 17 with fail
            go_cut [] (fun wd => MdlAt wd D base V2 mf ∧ RowR wd b8 (resCs 0 (x : Int) (-1) 0 false msg0 none 0 0) ∧ RowR wd (w.heap.size + 1) #[.int .i64 0, .int .i64 0, .int .i64 0, .int .u64 0, .bool false, .int .i64 0, .int .i64 0, .int .u32 0, .int .u64 0, .int .u64 0, .int .u64 0, .int .u64 0, .int .u64 0, .int .u64 0, .slice none 0 0] ∧ MW D V V2 w wd ∧ (Off V2 b8 ∧ Off V2 (w.heap.size + 1)) ∧ (w.heap.size + 1) < b8)
            case first =>
              go_wp2
              go_meet
              case rel => exact ⟨H1.other n7D o75.1, R7.set, R4.blk (far_set (by omega)), Mw.set (by omega), o75, h75⟩
            case rest =>
            clear H1 R7 R4 Mw o75 h75 q1 fz7
            obtain ⟨H1, R7, R4, Mw, o75, h75⟩ := hcut
            have hl43 := R7.load rfl
            have hs43 := R4.store rfl (cs := (resCs 0 (x : Int) (-1) 0 false msg0 none 0 0)) rfl (resCs_one _ _ _ _ _ _ _ _ _)
            go_upto_region 18 with fail
            go_wp2_with (first | (refine wpList_load_row rfl (.tmp 8) 43 rfl ⟨b8, 0, none⟩ (.agg (resCs 0 (x : Int) (-1) 0 false msg0 none 0 0)) rfl hl43 ?_) | (refine wpList_store_row rfl (.tmp 4) (.tmp 60) 43 rfl ⟨(w.heap.size + 1), 0, none⟩ (.agg (resCs 0 (x : Int) (-1) 0 false msg0 none 0 0)) rfl rfl hs43 ?_) | go_in)
            refine bodyPost_ret (v := .agg (resCs 0 (x : Int) (-1) 0 false msg0 none 0 0)) (results_cell_row rfl _ _ (w.heap.size + 1) 43 _ (0, 0) _ rfl R4.row Tryz.underlying43 rfl sz43) rfl ⟨V2, 0, x, mf, rfl, .inr ⟨HOC.out, .inr ⟨x, HX.out, hx, .inr ⟨HJ.out, rfl, rfl, HMF.out⟩⟩⟩, H1.otherRow n5D o75.2, (Mw.row (by omega)).fr⟩
  · have hca := fun w => isCore_any o.a w
    rw [decide_eq_false ha] at hca
    have HN := hideIt ha
    clear ha hoc
    go_wp2_with fail
    refine (hca _).mono ?_
    rintro e wc ⟨rfl, rfl⟩
    have han := answer_r 4 wc
    go_wp2_with fail
    refine han.mono ?_
    rintro e w5 ⟨rfl, hb5⟩
    have R5 := R4.blk (hb5.block _ R4.lt)
    have hs43 := R5.store rfl (cs := (resCs 4 (-1) (-1) 0 false msg0 none 0 0)) rfl (resCs_one _ _ _ _ _ _ _ _ _)
    have HB5 := hideIt hb5
    clear han hb5
    go_wp2_with (first | (refine wpList_store_row rfl (.tmp 4) (.tmp 22) 43 rfl ⟨(w.heap.size + 1), 0, none⟩ (.agg (resCs 4 (-1) (-1) 0 false msg0 none 0 0)) rfl rfl hs43 ?_) | go_in)
    have H5 := (H1.below HB5.out).otherRow (b := (w.heap.size + 1)) (cs := (resCs 4 (-1) (-1) 0 false msg0 none 0 0)) n5D o45.2
    have M5 := (Mw.below HB5.out).row (b := (w.heap.size + 1)) (cs := (resCs 4 (-1) (-1) 0 false msg0 none 0 0)) (by omega)
    refine bodyPost_ret (v := .agg (resCs 4 (-1) (-1) 0 false msg0 none 0 0)) (results_cell_row rfl _ _ (w.heap.size + 1) 43 _ (0, 0) _ rfl R5.row Tryz.underlying43 rfl sz43) rfl ⟨V, 4, -1, m, rfl, .inr ⟨HOC.out, .inl ⟨HN.out, rfl, rfl, rfl⟩⟩, H5, M5.fr⟩
end Go.Proofs.Qxb6500877aGreatDoor
