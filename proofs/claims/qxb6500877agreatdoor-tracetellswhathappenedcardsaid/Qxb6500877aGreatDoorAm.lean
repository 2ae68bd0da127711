import Derived.Deep.CutBlock
import Derived.OwnWalk
import Derived.Maps.AppendAt
import Derived.Test.Qxb6500877aGreatDoorAl
set_option linter.unusedVariables false
set_option linter.unusedSimpArgs false
namespace Go.Proofs.Qxb6500877aGreatDoor
open Go.RowKit

theorem four_one (a b c d : Int) : ∀ u ∈ [Value.int .u64 a, .int .i64 b, .int .u64 c, .int .u64 d], u.oneCell' = true := by
  intro u hu
  simp at hu
  rcases hu with rfl | rfl | rfl | rfl <;> rfl
/-- An arming, in the model. -/
def ArmM (m : Mdl) (c d ck : Int) (z co tm : Int) (m' : Mdl) : Prop :=
  (¬ (0 ≤ c ∧ c < 4) ∧ z = 4 ∧ co = -1 ∧ tm = 0 ∧ m' = m) ∨ ((0 ≤ c ∧ c < 4) ∧ ((m.tm.length = 64 ∧ z = 9 ∧ co = -1 ∧ tm = 0 ∧ m' = m) ∨ (m.tm.length ≠ 64 ∧ z = 0 ∧ co = c ∧ tm = m.nx ∧ m' = ((m.setNx (inc64 m.nx)).setTm (m.tm ++ [⟨m.nx, c, d, ck⟩])).inc (c.toNat * 7 + 4))))
/-- A timer in a variable of its own. -/
structure FourR (w : World) (b : Nat) (a c d k : Int) : Prop where
  c0 : w.cell? ⟨b, 0, none⟩ = some (.int .u64 a)
  c1 : w.cell? ⟨b, 1, none⟩ = some (.int .i64 c)
  c2 : w.cell? ⟨b, 2, none⟩ = some (.int .u64 d)
  c3 : w.cell? ⟨b, 3, none⟩ = some (.int .u64 k)
theorem FourR.blk {w w' : World} {b : Nat} {a c d k : Int} (h : FourR w b a c d k) (e : w'.heap[b]? = w.heap[b]?) : FourR w' b a c d k :=
  ⟨(World.cell?_of_block (a := ⟨b, 0, none⟩) e).trans h.c0, (World.cell?_of_block (a := ⟨b, 1, none⟩) e).trans h.c1, (World.cell?_of_block (a := ⟨b, 2, none⟩) e).trans h.c2, (World.cell?_of_block (a := ⟨b, 3, none⟩) e).trans h.c3⟩
theorem FourR.new (w : World) (a c d k : Int) (t : TypeId) : FourR (w.alloc (.cells #[.int .u64 a, .int .i64 c, .int .u64 d, .int .u64 k] t)) w.heap.size a c d k := by
  refine ⟨?_, ?_, ?_, ?_⟩ <;> simp
theorem FourR.lt {w : World} {b : Nat} {a c d k : Int} (h : FourR w b a c d k) : b < w.heap.size := World.block_lt_of_cell? _ _ h.c0
set_option maxRecDepth 20000 in
set_option maxHeartbeats 8000000 in
theorem marm_any {w : World} {D base : Nat} {V : Nat → Value} {m : Mdl} {cc d ck : Int} (H : MdlAt w D base V m) (hbw : base ≤ w.heap.size) (hl : m.tm.length ≤ 900) :
    Calls Tryz.prog 79 #[.pointer (some ⟨D, 0, none⟩), .int .i64 cc, .int .u64 d, .int .u64 ck] w fun e w' => ∃ V' z co tm m', e = .returned (.agg (resCs z co (-1) tm false msg0 none 0 0)) ∧ ArmM m cc d ck z co tm m' ∧ MdlAt w' D base V' m' ∧ MFr D V V' w w' := by
  obtain ⟨i0_, hi_, hz0, hz1, hz2⟩ := info_parts info84
  have hDl := H.dlt
  have n4D : w.heap.size ≠ D := by omega
  have hF : MdlAt (World.alloc w (.cells #[.int .i64 0, .int .i64 0, .int .i64 0, .int .u64 0, .bool false, .int .i64 0, .int .i64 0, .int .u32 0, .int .u64 0, .int .u64 0, .int .u64 0, .int .u64 0, .int .u64 0, .int .u64 0, .slice none 0 0] 43)) D base V m ∧ RowR (World.alloc w (.cells #[.int .i64 0, .int .i64 0, .int .i64 0, .int .u64 0, .bool false, .int .i64 0, .int .i64 0, .int .u32 0, .int .u64 0, .int .u64 0, .int .u64 0, .int .u64 0, .int .u64 0, .int .u64 0, .slice none 0 0] 43)) w.heap.size #[.int .i64 0, .int .i64 0, .int .i64 0, .int .u64 0, .bool false, .int .i64 0, .int .i64 0, .int .u32 0, .int .u64 0, .int .u64 0, .int .u64 0, .int .u64 0, .int .u64 0, .int .u64 0, .slice none 0 0] ∧ MW D V V w (World.alloc w (.cells #[.int .i64 0, .int .i64 0, .int .i64 0, .int .u64 0, .bool false, .int .i64 0, .int .i64 0, .int .u32 0, .int .u64 0, .int .u64 0, .int .u64 0, .int .u64 0, .int .u64 0, .int .u64 0, .slice none 0 0] 43)) ∧ Off V w.heap.size ∧ base ≤ (World.alloc w (.cells #[.int .i64 0, .int .i64 0, .int .i64 0, .int .u64 0, .bool false, .int .i64 0, .int .i64 0, .int .u32 0, .int .u64 0, .int .u64 0, .int .u64 0, .int .u64 0, .int .u64 0, .int .u64 0, .slice none 0 0] 43)).heap.size := by
    have bb := one_alloc w (.cells #[.int .i64 0, .int .i64 0, .int .i64 0, .int .u64 0, .bool false, .int .i64 0, .int .i64 0, .int .u32 0, .int .u64 0, .int .u64 0, .int .u64 0, .int .u64 0, .int .u64 0, .int .u64 0, .slice none 0 0] 43)
    exact ⟨H.below bb, RowR.new _ _, ((MFr.refl D V w).below bb).mw, H.off (Nat.le_refl _), Nat.le_trans hbw bb.size⟩
  go_enter Tryz.func79, Tryz.ntmps79
  go_upto_region 1 with fail
  generalize hW0 : World.alloc w (.cells #[.int .i64 0, .int .i64 0, .int .i64 0, .int .u64 0, .bool false, .int .i64 0, .int .i64 0, .int .u32 0, .int .u64 0, .int .u64 0, .int .u64 0, .int .u64 0, .int .u64 0, .int .u64 0, .slice none 0 0] 43) = wc at *
  clear hW0
  obtain ⟨H1, R4, Mw, o4, hbs⟩ := hF
  by_cases hc : 0 ≤ cc ∧ cc < 4
  · have hca := fun w => isCore_any cc w
    rw [decide_eq_true hc] at hca
    obtain ⟨c, ex⟩ : ∃ c : Nat, cc = c := ⟨cc.toNat, by omega⟩
    subst ex
    have hc4 : c < 4 := by omega
    have c0 : (0 : Int) ≤ c := by omega
    have c1 : (c : Int) < 4 := by omega
    clear hc
    obtain ⟨s0, hown⟩ := H1.trow
    obtain ⟨pv, cap, ev⟩ := own_shape hown
    rw [ev] at s0
    clear hown
    obtain ⟨n, hn⟩ : ∃ n, n = m.tm.length := ⟨_, rfl⟩
    rw [← hn] at s0 hl ev
    have HN := hideIt hn
    clear hn
    go_wp2_with fail
    refine (hca _).mono ?_
    rintro e wc ⟨rfl, rfl⟩
    clear hca
    by_cases h64 : n = 64
    · have e64 : ((n : Int) == 64) = true := by rw [h64]; rfl
      have HF : Hid (m.tm.length = 64) := hideIt (by rw [← HN.out]; exact h64)
      clear h64
      have han := answer_r 9 wc
      go_wp2_with fail
      refine han.mono ?_
      rintro e w5 ⟨rfl, hb5⟩
      have R5 := R4.blk (hb5.block _ R4.lt)
      have hs43 := R5.store rfl (cs := (resCs 9 (-1) (-1) 0 false msg0 none 0 0)) rfl (resCs_one _ _ _ _ _ _ _ _ _)
      have HB5 := hideIt hb5
      clear han hb5
      go_wp2_with (first | (refine wpList_store_row rfl (.tmp 8) (.tmp 21) 43 rfl ⟨w.heap.size, 0, none⟩ (.agg (resCs 9 (-1) (-1) 0 false msg0 none 0 0)) rfl rfl hs43 ?_) | go_in)
      have H5 := (H1.below HB5.out).otherRow (b := w.heap.size) (cs := (resCs 9 (-1) (-1) 0 false msg0 none 0 0)) n4D o4
      have M5 := (Mw.below HB5.out).row (b := w.heap.size) (cs := (resCs 9 (-1) (-1) 0 false msg0 none 0 0)) (Nat.le_refl _)
      refine bodyPost_ret (v := .agg (resCs 9 (-1) (-1) 0 false msg0 none 0 0)) (results_cell_row rfl _ _ w.heap.size 43 _ (0, 0) _ rfl R5.row Tryz.underlying43 rfl sz43) rfl ⟨V, 9, -1, 0, m, rfl, .inr ⟨⟨c0, c1⟩, .inl ⟨HF.out, rfl, rfl, rfl, rfl⟩⟩, H5, M5.fr⟩
    · have e64 : ((n : Int) == 64) = false := beq_eq_false_iff_ne.2 (by omega)
      have HF : Hid (m.tm.length ≠ 64) := hideIt (by rw [← HN.out]; exact h64)
      clear h64
      have x0 := H1.nxc
      obtain ⟨nx, hnx⟩ : ∃ nx, nx = m.nx := ⟨_, rfl⟩
      rw [← hnx] at x0
      have HNX := hideIt hnx
      clear hnx
      go_upto_region 5 with fail
      go_cut [9] (fun a9 wd => ∃ b9 : Nat, a9 = .pointer (some ⟨b9, 0, none⟩) ∧ MdlAt wd D base V m ∧ RowR wd w.heap.size #[.int .i64 0, .int .i64 0, .int .i64 0, .int .u64 0, .bool false, .int .i64 0, .int .i64 0, .int .u32 0, .int .u64 0, .int .u64 0, .int .u64 0, .int .u64 0, .int .u64 0, .int .u64 0, .slice none 0 0] ∧ MW D V V w wd ∧ Off V w.heap.size ∧ base ≤ wd.heap.size ∧ FourR wd b9 nx c d ck ∧ Off V b9 ∧ w.heap.size < b9)
      case first =>
        go_wp2
        go_meet
        case rel =>
          have b1 := one_alloc wc (.cells #[.int .u64 nx, .int .i64 (c : Int), .int .u64 d, .int .u64 ck] 84)
          have hr4 := R4.lt
          exact ⟨wc.heap.size, rfl, H1.below b1, R4.blk (b1.block _ hr4), Mw.below b1, o4, Nat.le_trans hbs b1.size, FourR.new wc nx c d ck 84, H1.off (Nat.le_refl _), hr4⟩
      case rest =>
      clear H1 R4 Mw o4 hbs s0 x0
      obtain ⟨b9, rfl, H1, R4, Mw, o4, hbs, F9, o9, h49⟩ := hcut
      have n9D : b9 ≠ D := by omega
      have x0 := H1.nxc
      rw [← HNX.out] at x0
      have fz := H1.fz
      go_upto_region 6 with fail
      go_cut [] (fun wd => MdlAt wd D base V (m.setNx (inc64 nx)) ∧ RowR wd w.heap.size #[.int .i64 0, .int .i64 0, .int .i64 0, .int .u64 0, .bool false, .int .i64 0, .int .i64 0, .int .u32 0, .int .u64 0, .int .u64 0, .int .u64 0, .int .u64 0, .int .u64 0, .int .u64 0, .slice none 0 0] ∧ MW D V V w wd ∧ Off V w.heap.size ∧ base ≤ wd.heap.size ∧ FourR wd b9 nx c d ck)
      case first =>
        obtain ⟨H8, F8⟩ := H1.putNx (inc64 nx)
        go_wp2
        go_meet
        case rel => exact ⟨H8, R4.blk (far_set n4D), Mw.then F8, o4, Nat.le_trans hbs F8.size, F9.blk (far_set n9D)⟩
      case rest =>
      clear H1 R4 Mw o4 hbs x0 fz F9
      obtain ⟨H1, R4, Mw, o4, hbs, F9⟩ := hcut
      have hx := H1.trow
      have s0 : wc.cell? ⟨D, 85, none⟩ = some (V 20) := hx.1
      have hown : wc.ownsRow base 84 4 (V 20) m.tm.length (tmCells m.tm) := hx.2
      rw [ev] at s0
      rw [← HN.out, ev] at hown
      clear hx
      obtain ⟨u0, u1, u2, u3⟩ := F9
      have F9 : FourR wc b9 nx c d ck := ⟨u0, u1, u2, u3⟩
      have hDw := H1.dlt
      have hPw := F9.lt
      have hDr : some D ≠ (Value.slice pv n cap).ownBlock := fun e => by have := (hown.lt D e.symm).1; have := H1.lt; omega
      have hPr : some b9 ≠ (Value.slice pv n cap).ownBlock := fun e => o9 20 (by omega) (by rw [ev]; exact e.symm)
      have fz := H1.fz
      obtain ⟨m1, hm1⟩ : ∃ m1, m1 = m.setNx (inc64 nx) := ⟨_, rfl⟩
      rw [← hm1] at H1
      have HM1 := hideIt hm1
      clear hm1
      obtain ⟨l, hll⟩ : ∃ l, l = m.tm := ⟨_, rfl⟩
      rw [← hll] at hown
      have HNL : Hid (n = l.length) := hideIt (by rw [hll]; exact HN.out)
      have HLL := hideIt hll
      clear hll
      go_upto_region 7 with fail
      go_cut [] (fun wd => ∃ V2, MdlAt wd D base V2 (m1.setTm (l ++ [⟨nx, c, d, ck⟩])) ∧ RowR wd w.heap.size #[.int .i64 0, .int .i64 0, .int .i64 0, .int .u64 0, .bool false, .int .i64 0, .int .i64 0, .int .u32 0, .int .u64 0, .int .u64 0, .int .u64 0, .int .u64 0, .int .u64 0, .int .u64 0, .slice none 0 0] ∧ MW D V V2 w wd ∧ Off V2 w.heap.size ∧ base ≤ wd.heap.size ∧ FourR wd b9 nx c d ck ∧ Off V2 b9)
      case first =>
        refine wp_region_l (l := 10) (S := (fun w' => w'.cell? ⟨D, 85, none⟩ = some (.slice pv n cap) ∧ w'.cell? ⟨b9, 0, none⟩ = some (.int .u64 nx) ∧ w'.cell? ⟨b9, 1, none⟩ = some (.int .i64 (c : Int)) ∧ w'.cell? ⟨b9, 2, none⟩ = some (.int .u64 d) ∧ w'.cell? ⟨b9, 3, none⟩ = some (.int .u64 ck))) (by kernel_rfl) ⟨s0, u0, u1, u2, u3⟩ (fun hHeld => ?_)
        refine AnyL.take2 (i := 0) (oi := { dst := some 37, op := Go.Op.move (Go.Operand.tmp 0), type := 26, pos := _, after := #[], guard := none }) (v := ?vv1) (by kernel_rfl) (by kernel_rfl) rfl (by kernel_rfl) (by kernel_rfl) (by kernel_rfl) (fun _ _ _ h => h) (Or.inl ⟨by rfl, ?hy1⟩) (by assumption) ?tk1
        case hy1 => (intro w hSw; (try dsimp only at hSw); go_simp; (try with_reducible rfl))
        try simp only [Act.put, List.setIfInBounds_toArray, List.set_cons_zero, List.set_cons_succ]
        refine AnyL.take2 (i := 1) (oi := { dst := some 38, op := Go.Op.move (Go.Operand.tmp 0), type := 26, pos := _, after := #[], guard := none }) (v := ?vv2) (by kernel_rfl) (by kernel_rfl) rfl (by kernel_rfl) (by kernel_rfl) (by kernel_rfl) (fun _ _ _ h => h) (Or.inl ⟨by rfl, ?hy2⟩) (by assumption) ?tk2
        case hy2 => (intro w hSw; (try dsimp only at hSw); go_simp; (try with_reducible rfl))
        try simp only [Act.put, List.setIfInBounds_toArray, List.set_cons_zero, List.set_cons_succ]
        refine AnyL.take2 (i := 2) (oi := { dst := some 39, op := Go.Op.nilCheck (Go.Operand.tmp 38), type := 0, pos := _, after := #[{ on := 1, ground := Go.Ground.data }], guard := none }) (v := ?vv3) (by kernel_rfl) (by kernel_rfl) rfl (by kernel_rfl) (by kernel_rfl) (by kernel_rfl) (fun _ _ _ h => h) (Or.inl ⟨by rfl, ?hy3⟩) (by assumption) ?tk3
        case hy3 => (intro w hSw; (try dsimp only at hSw); go_simp; (try with_reducible rfl))
        try simp only [Act.put, List.setIfInBounds_toArray, List.set_cons_zero, List.set_cons_succ]
        refine AnyL.take2 (i := 3) (oi := { dst := some 40, op := Go.Op.fieldAddr 135 (Go.Operand.tmp 39) 5, type := 0, pos := _, after := #[{ on := 2, ground := Go.Ground.data }], guard := none }) (v := ?vv4) (by kernel_rfl) (by kernel_rfl) rfl (by kernel_rfl) (by kernel_rfl) (by kernel_rfl) (fun _ _ _ h => h) (Or.inl ⟨by rfl, ?hy4⟩) (by assumption) ?tk4
        case hy4 => (intro w hSw; (try dsimp only at hSw); go_simp; (try with_reducible rfl))
        try simp only [Act.put, List.setIfInBounds_toArray, List.set_cons_zero, List.set_cons_succ]
        refine AnyL.take2 (i := 4) (oi := { dst := some 41, op := Go.Op.load 59 (Go.Operand.tmp 40), type := 59, pos := _, after := #[{ on := 3, ground := Go.Ground.data }], guard := none }) (v := ?vv5) (by kernel_rfl) (by kernel_rfl) rfl (by kernel_rfl) (by kernel_rfl) (by kernel_rfl) (fun _ _ _ h => h) (Or.inl ⟨by rfl, ?hy5⟩) (by assumption) ?tk5
        case hy5 => (intro w hSw; (try dsimp only at hSw); go_simp; (try with_reducible rfl))
        try simp only [Act.put, List.setIfInBounds_toArray, List.set_cons_zero, List.set_cons_succ]
        refine AnyL.take2 (i := 5) (oi := { dst := some 42, op := Go.Op.load 84 (Go.Operand.tmp 9), type := 84, pos := _, after := #[], guard := none }) (v := ?vv6) (by kernel_rfl) (by kernel_rfl) rfl (by kernel_rfl) (by kernel_rfl) (by kernel_rfl) (fun _ _ _ h => h) (Or.inl ⟨by rfl, ?hy6⟩) (by assumption) ?tk6
        case hy6 => (intro w hSw; (try dsimp only at hSw); go_simp; (try with_reducible rfl))
        try simp only [Act.put, List.setIfInBounds_toArray, List.set_cons_zero, List.set_cons_succ]
        refine AnyL.one (i := 6) (o := { dst := some 43, op := Go.Op.buildSlice 59 1 #[(0, Go.Operand.tmp 42)], type := 59, pos := _, after := #[{ on := 5, ground := Go.Ground.data }], guard := none }) (by kernel_rfl) rfl rfl (fun K' hK' => ?_)
        go_simp
        clear hHeld
        refine hK'.out _ _ (by refine ⟨?_, ?_, ?_, ?_, ?_⟩ <;> go_simp) (fun hHeld => ?_)
        clear hK' K'
        try simp only [Act.put, List.setIfInBounds_toArray, List.set_cons_zero, List.set_cons_succ]
        refine AnyL.one (i := 7) (o := { dst := some 44, op := Go.Op.call { callee := Go.Callee.builtin Go.Builtin.append, args := #[Go.Operand.tmp 41, Go.Operand.tmp 43], argTypes := #[59, 59] }, type := 59, pos := _, after := #[{ on := 4, ground := Go.Ground.data }, { on := 6, ground := Go.Ground.data }], guard := none }) (by kernel_rfl) rfl rfl (fun K' hK' => ?_)
        refine ite_take (by rfl) ?_
        refine wp_append_own_at (.tmp 41) (.tmp 43) 59 rfl base 84 i0_ (.agg #[.int .u64 0, .int .i64 0, .int .u64 0, .int .u64 0]) 4 32 Tryz.underlying59 hi_ hz0 hz1 hz2 rfl (by decide) (.slice pv n cap) n (tmCells l) rfl (hown.alloc _) ⟨wc.heap.size, 0, none⟩ 1 1 [.int .u64 nx, .int .i64 (c : Int), .int .u64 d, .int .u64 ck] rfl rfl (cell_four_new _ _ _ _ _ _) (four_one _ _ _ _) (by unfold maxLen; omega) (by omega) (by simp; omega) ?_
        intro v' w3 hown' hgrow hblk
        obtain ⟨p', c', rfl⟩ := own_shape hown'
        have fz3 := fun o => (pushed_frozen hgrow hDw hDr o).trans (fz o)
        have k0 := hgrow.cell (a := ⟨D, 85, none⟩) hHeld.1 hDr
        have k1 := hgrow.cell (a := ⟨b9, 0, none⟩) hHeld.2.1 hPr
        have k2 := hgrow.cell (a := ⟨b9, 1, none⟩) hHeld.2.2.1 hPr
        have k3 := hgrow.cell (a := ⟨b9, 2, none⟩) hHeld.2.2.2.1 hPr
        have k4 := hgrow.cell (a := ⟨b9, 3, none⟩) hHeld.2.2.2.2 hPr
        have HG := hideIt (And.intro hown' (And.intro hgrow hblk))
        clear hown' hgrow hblk
        clear hHeld
        refine hK'.out _ _ ⟨k0, k1, k2, k3, k4⟩ (fun hHeld => ?_)
        clear hK' K'
        try simp only [Act.put, List.setIfInBounds_toArray, List.set_cons_zero, List.set_cons_succ]
        refine AnyL.take2 (i := 8) (oi := { dst := some 45, op := Go.Op.nilCheck (Go.Operand.tmp 37), type := 0, pos := _, after := #[{ on := 0, ground := Go.Ground.data }, { on := 0, ground := Go.Ground.phase }, { on := 1, ground := Go.Ground.phase }, { on := 2, ground := Go.Ground.phase }, { on := 3, ground := Go.Ground.phase }, { on := 4, ground := Go.Ground.phase }, { on := 5, ground := Go.Ground.phase }, { on := 6, ground := Go.Ground.phase }, { on := 7, ground := Go.Ground.phase }], guard := none }) (v := ?vv7) (by kernel_rfl) (by kernel_rfl) rfl (by kernel_rfl) (by kernel_rfl) (by kernel_rfl) (fun _ _ _ h => h) (Or.inl ⟨by rfl, ?hy7⟩) (by assumption) ?tk7
        case hy7 => (intro w hSw; (try dsimp only at hSw); go_simp; (try with_reducible rfl))
        try simp only [Act.put, List.setIfInBounds_toArray, List.set_cons_zero, List.set_cons_succ]
        refine AnyL.take2 (i := 9) (oi := { dst := some 46, op := Go.Op.fieldAddr 135 (Go.Operand.tmp 45) 5, type := 0, pos := _, after := #[{ on := 8, ground := Go.Ground.data }, { on := 0, ground := Go.Ground.phase }, { on := 1, ground := Go.Ground.phase }, { on := 2, ground := Go.Ground.phase }, { on := 3, ground := Go.Ground.phase }, { on := 4, ground := Go.Ground.phase }, { on := 5, ground := Go.Ground.phase }, { on := 6, ground := Go.Ground.phase }, { on := 7, ground := Go.Ground.phase }], guard := none }) (v := ?vv8) (by kernel_rfl) (by kernel_rfl) rfl (by kernel_rfl) (by kernel_rfl) (by kernel_rfl) (fun _ _ _ h => h) (Or.inl ⟨by rfl, ?hy8⟩) (by assumption) ?tk8
        case hy8 => (intro w hSw; (try dsimp only at hSw); go_simp; (try with_reducible rfl))
        try simp only [Act.put, List.setIfInBounds_toArray, List.set_cons_zero, List.set_cons_succ]
        refine AnyL.last (o := { dst := none, op := Go.Op.store 59 (Go.Operand.tmp 46) (Go.Operand.tmp 44), type := 0, pos := _, after := #[{ on := 9, ground := Go.Ground.data }, { on := 7, ground := Go.Ground.data }, { on := 7, ground := Go.Ground.chain }, { on := 0, ground := Go.Ground.phase }, { on := 1, ground := Go.Ground.phase }, { on := 2, ground := Go.Ground.phase }, { on := 3, ground := Go.Ground.phase }, { on := 4, ground := Go.Ground.phase }, { on := 5, ground := Go.Ground.phase }, { on := 6, ground := Go.Ground.phase }, { on := 7, ground := Go.Ground.phase }], guard := none }) (by kernel_rfl) rfl (by kernel_rfl) (fun K' hK' => ?_)
        go_simp
        clear hHeld
        refine hK'.out _ _ ?_
        clear hK' K'
        try simp only [Act.put, List.setIfInBounds_toArray, List.set_cons_zero, List.set_cons_succ]
        go_wp2
        go_meet
        case rel =>
          obtain ⟨ho, hg, hk⟩ := HG.out
          have bd := below_dr (one_alloc wc (.cells #[.int .u64 nx, .int .i64 (c : Int), .int .u64 d, .int .u64 ck] 84))
          obtain ⟨H8, F8⟩ := H1.newTm (l := l ++ [⟨nx, c, d, ck⟩]) (w3 := w3) (by rw [ev]; exact grown_da hg bd) (by rw [tmCells_snoc, List.length_append, ← HNL.out]; exact ho) (by rw [ev]; exact blk_da hk bd)
          exact ⟨_, H8, R4.blk (F8.keep o4 R4.lt n4D), Mw.then F8, F8.off o4 R4.lt, Nat.le_trans hbs F8.size, F9.blk (F8.keep o9 F9.lt n9D), F8.off o9 F9.lt⟩
      case rest =>
      clear H1 R4 Mw o4 hbs s0 hown F9 u0 u1 u2 u3 hDw hPw hDr hPr fz ev o9
      obtain ⟨V2, H1, R4, Mw, o4, hbs, F9, o9⟩ := hcut
      obtain ⟨m2, hm2⟩ : ∃ m2, m2 = m1.setTm (l ++ [⟨nx, c, d, ck⟩]) := ⟨_, rfl⟩
      rw [← hm2] at H1
      have HM2 := hideIt hm2
      clear hm2
      have s0 := H1.stc (j := c * 7 + 4) (by omega)
      rw [← Nat.add_assoc] at s0
      obtain ⟨sv, hsv⟩ : ∃ sv, sv = m2.st (c * 7 + 4) := ⟨_, rfl⟩
      rw [← hsv] at s0
      have HSV := hideIt hsv
      clear hsv
      have u1 := F9.c1
      have fz := H1.fz
      go_upto_region 8 with fail
      go_cut [] (fun wd => MdlAt wd D base V2 (m2.setSt (c * 7 + 4) (inc64 sv)) ∧ RowR wd w.heap.size #[.int .i64 0, .int .i64 0, .int .i64 0, .int .u64 0, .bool false, .int .i64 0, .int .i64 0, .int .u32 0, .int .u64 0, .int .u64 0, .int .u64 0, .int .u64 0, .int .u64 0, .int .u64 0, .slice none 0 0] ∧ MW D V V2 w wd ∧ Off V2 w.heap.size ∧ base ≤ wd.heap.size ∧ FourR wd b9 nx c d ck)
      case first =>
        refine wp_region_l (l := 13) (S := (fun w' => w'.cell? ⟨D, 87 + c * 7 + 4, none⟩ = some (.int .u64 sv) ∧ w'.cell? ⟨b9, 1, none⟩ = some (.int .i64 (c : Int)))) (by kernel_rfl) ⟨s0, u1⟩ (fun hHeld => ?_)
        refine AnyL.take2 (i := 0) (oi := { dst := some 47, op := Go.Op.move (Go.Operand.tmp 0), type := 26, pos := _, after := #[], guard := none }) (v := ?vv9) (by kernel_rfl) (by kernel_rfl) rfl (by kernel_rfl) (by kernel_rfl) (by kernel_rfl) (fun _ _ _ h => h) (Or.inl ⟨by rfl, ?hy9⟩) (by assumption) ?tk9
        case hy9 => (intro w hSw; (try dsimp only at hSw); go_simp; (try with_reducible rfl))
        try simp only [Act.put, List.setIfInBounds_toArray, List.set_cons_zero, List.set_cons_succ]
        refine AnyL.take2 (i := 1) (oi := { dst := some 48, op := Go.Op.fieldAddr 84 (Go.Operand.tmp 9) 1, type := 0, pos := _, after := #[], guard := none }) (v := ?vv10) (by kernel_rfl) (by kernel_rfl) rfl (by kernel_rfl) (by kernel_rfl) (by kernel_rfl) (fun _ _ _ h => h) (Or.inl ⟨by rfl, ?hy10⟩) (by assumption) ?tk10
        case hy10 => (intro w hSw; (try dsimp only at hSw); go_simp; (try with_reducible rfl))
        try simp only [Act.put, List.setIfInBounds_toArray, List.set_cons_zero, List.set_cons_succ]
        refine AnyL.take2 (i := 2) (oi := { dst := some 49, op := Go.Op.load 34 (Go.Operand.tmp 48), type := 34, pos := _, after := #[{ on := 1, ground := Go.Ground.data }], guard := none }) (v := ?vv11) (by kernel_rfl) (by kernel_rfl) rfl (by kernel_rfl) (by kernel_rfl) (by kernel_rfl) (fun _ _ _ h => h) (Or.inl ⟨by rfl, ?hy11⟩) (by assumption) ?tk11
        case hy11 => (intro w hSw; (try dsimp only at hSw); go_simp; (try with_reducible rfl))
        try simp only [Act.put, List.setIfInBounds_toArray, List.set_cons_zero, List.set_cons_succ]
        refine AnyL.take2 (i := 3) (oi := { dst := some 50, op := Go.Op.nilCheck (Go.Operand.tmp 47), type := 0, pos := _, after := #[{ on := 0, ground := Go.Ground.data }], guard := none }) (v := ?vv12) (by kernel_rfl) (by kernel_rfl) rfl (by kernel_rfl) (by kernel_rfl) (by kernel_rfl) (fun _ _ _ h => h) (Or.inl ⟨by rfl, ?hy12⟩) (by assumption) ?tk12
        case hy12 => (intro w hSw; (try dsimp only at hSw); go_simp; (try with_reducible rfl))
        try simp only [Act.put, List.setIfInBounds_toArray, List.set_cons_zero, List.set_cons_succ]
        refine AnyL.take2 (i := 4) (oi := { dst := some 51, op := Go.Op.fieldAddr 135 (Go.Operand.tmp 50) 7, type := 0, pos := _, after := #[{ on := 3, ground := Go.Ground.data }], guard := none }) (v := ?vv13) (by kernel_rfl) (by kernel_rfl) rfl (by kernel_rfl) (by kernel_rfl) (by kernel_rfl) (fun _ _ _ h => h) (Or.inl ⟨by rfl, ?hy13⟩) (by assumption) ?tk13
        case hy13 => (intro w hSw; (try dsimp only at hSw); go_simp; (try with_reducible rfl))
        try simp only [Act.put, List.setIfInBounds_toArray, List.set_cons_zero, List.set_cons_succ]
        refine AnyL.take2 (i := 5) (oi := { dst := some 52, op := Go.Op.indexAddr 133 (Go.Operand.tmp 51) (Go.Operand.tmp 49), type := 0, pos := _, after := #[{ on := 4, ground := Go.Ground.data }, { on := 2, ground := Go.Ground.data }], guard := none }) (v := ?vv14) (by kernel_rfl) (by kernel_rfl) rfl (by kernel_rfl) (by kernel_rfl) (by kernel_rfl) (fun _ _ _ h => h) (Or.inl ⟨by rfl, ?hy14⟩) (by assumption) ?tk14
        case hy14 => (intro w hSw; (try dsimp only at hSw); go_simp; (try with_reducible rfl))
        try simp only [Act.put, List.setIfInBounds_toArray, List.set_cons_zero, List.set_cons_succ]
        refine AnyL.take2 (i := 6) (oi := { dst := some 53, op := Go.Op.fieldAddr 52 (Go.Operand.tmp 52) 4, type := 0, pos := _, after := #[{ on := 5, ground := Go.Ground.data }], guard := none }) (v := ?vv15) (by kernel_rfl) (by kernel_rfl) rfl (by kernel_rfl) (by kernel_rfl) (by kernel_rfl) (fun _ _ _ h => h) (Or.inl ⟨by rfl, ?hy15⟩) (by assumption) ?tk15
        case hy15 => (intro w hSw; (try dsimp only at hSw); go_simp; (try with_reducible rfl))
        try simp only [Act.put, List.setIfInBounds_toArray, List.set_cons_zero, List.set_cons_succ]
        refine AnyL.take2 (i := 7) (oi := { dst := some 54, op := Go.Op.load 28 (Go.Operand.tmp 53), type := 28, pos := _, after := #[{ on := 6, ground := Go.Ground.data }], guard := none }) (v := ?vv16) (by kernel_rfl) (by kernel_rfl) rfl (by kernel_rfl) (by kernel_rfl) (by kernel_rfl) (fun _ _ _ h => h) (Or.inl ⟨by rfl, ?hy16⟩) (by assumption) ?tk16
        case hy16 => (intro w hSw; (try dsimp only at hSw); go_simp; (try with_reducible rfl))
        try simp only [Act.put, List.setIfInBounds_toArray, List.set_cons_zero, List.set_cons_succ]
        refine AnyL.take2 (i := 8) (oi := { dst := some 55, op := Go.Op.binOp Go.BinOp.add 28 (Go.Operand.tmp 54) (Go.Operand.const (Go.Value.int Go.IntKind.u64 1)) 28, type := 28, pos := _, after := #[{ on := 7, ground := Go.Ground.data }], guard := none }) (v := ?vv17) (by kernel_rfl) (by kernel_rfl) rfl (by kernel_rfl) (by kernel_rfl) (by kernel_rfl) (fun _ _ _ h => h) (Or.inl ⟨by rfl, ?hy17⟩) (by assumption) ?tk17
        case hy17 => (intro w hSw; (try dsimp only at hSw); go_simp; (try with_reducible rfl))
        try simp only [Act.put, List.setIfInBounds_toArray, List.set_cons_zero, List.set_cons_succ]
        refine AnyL.take2 (i := 9) (oi := { dst := some 56, op := Go.Op.nilCheck (Go.Operand.tmp 47), type := 0, pos := _, after := #[{ on := 0, ground := Go.Ground.data }], guard := none }) (v := ?vv18) (by kernel_rfl) (by kernel_rfl) rfl (by kernel_rfl) (by kernel_rfl) (by kernel_rfl) (fun _ _ _ h => h) (Or.inl ⟨by rfl, ?hy18⟩) (by assumption) ?tk18
        case hy18 => (intro w hSw; (try dsimp only at hSw); go_simp; (try with_reducible rfl))
        try simp only [Act.put, List.setIfInBounds_toArray, List.set_cons_zero, List.set_cons_succ]
        refine AnyL.take2 (i := 10) (oi := { dst := some 57, op := Go.Op.fieldAddr 135 (Go.Operand.tmp 56) 7, type := 0, pos := _, after := #[{ on := 9, ground := Go.Ground.data }], guard := none }) (v := ?vv19) (by kernel_rfl) (by kernel_rfl) rfl (by kernel_rfl) (by kernel_rfl) (by kernel_rfl) (fun _ _ _ h => h) (Or.inl ⟨by rfl, ?hy19⟩) (by assumption) ?tk19
        case hy19 => (intro w hSw; (try dsimp only at hSw); go_simp; (try with_reducible rfl))
        try simp only [Act.put, List.setIfInBounds_toArray, List.set_cons_zero, List.set_cons_succ]
        refine AnyL.take2 (i := 11) (oi := { dst := some 58, op := Go.Op.indexAddr 133 (Go.Operand.tmp 57) (Go.Operand.tmp 49), type := 0, pos := _, after := #[{ on := 10, ground := Go.Ground.data }, { on := 2, ground := Go.Ground.data }, { on := 0, ground := Go.Ground.phase }, { on := 1, ground := Go.Ground.phase }, { on := 2, ground := Go.Ground.phase }, { on := 3, ground := Go.Ground.phase }, { on := 4, ground := Go.Ground.phase }, { on := 5, ground := Go.Ground.phase }, { on := 6, ground := Go.Ground.phase }, { on := 7, ground := Go.Ground.phase }, { on := 8, ground := Go.Ground.phase }], guard := none }) (v := ?vv20) (by kernel_rfl) (by kernel_rfl) rfl (by kernel_rfl) (by kernel_rfl) (by kernel_rfl) (fun _ _ _ h => h) (Or.inl ⟨by rfl, ?hy20⟩) (by assumption) ?tk20
        case hy20 => (intro w hSw; (try dsimp only at hSw); go_simp; (try with_reducible rfl))
        try simp only [Act.put, List.setIfInBounds_toArray, List.set_cons_zero, List.set_cons_succ]
        refine AnyL.take2 (i := 12) (oi := { dst := some 59, op := Go.Op.fieldAddr 52 (Go.Operand.tmp 58) 4, type := 0, pos := _, after := #[{ on := 11, ground := Go.Ground.data }, { on := 0, ground := Go.Ground.phase }, { on := 1, ground := Go.Ground.phase }, { on := 2, ground := Go.Ground.phase }, { on := 3, ground := Go.Ground.phase }, { on := 4, ground := Go.Ground.phase }, { on := 5, ground := Go.Ground.phase }, { on := 6, ground := Go.Ground.phase }, { on := 7, ground := Go.Ground.phase }, { on := 8, ground := Go.Ground.phase }], guard := none }) (v := ?vv21) (by kernel_rfl) (by kernel_rfl) rfl (by kernel_rfl) (by kernel_rfl) (by kernel_rfl) (fun _ _ _ h => h) (Or.inl ⟨by rfl, ?hy21⟩) (by assumption) ?tk21
        case hy21 => (intro w hSw; (try dsimp only at hSw); go_simp; (try with_reducible rfl))
        try simp only [Act.put, List.setIfInBounds_toArray, List.set_cons_zero, List.set_cons_succ]
        refine AnyL.last (o := { dst := none, op := Go.Op.store 28 (Go.Operand.tmp 59) (Go.Operand.tmp 55), type := 0, pos := _, after := #[{ on := 12, ground := Go.Ground.data }, { on := 8, ground := Go.Ground.data }, { on := 0, ground := Go.Ground.phase }, { on := 1, ground := Go.Ground.phase }, { on := 2, ground := Go.Ground.phase }, { on := 3, ground := Go.Ground.phase }, { on := 4, ground := Go.Ground.phase }, { on := 5, ground := Go.Ground.phase }, { on := 6, ground := Go.Ground.phase }, { on := 7, ground := Go.Ground.phase }, { on := 8, ground := Go.Ground.phase }], guard := none }) (by kernel_rfl) rfl (by kernel_rfl) (fun K' hK' => ?_)
        go_simp
        clear hHeld
        refine hK'.out _ _ ?_
        clear hK' K'
        try simp only [Act.put, List.setIfInBounds_toArray, List.set_cons_zero, List.set_cons_succ]
        go_wp2
        go_meet
        case rel =>
          obtain ⟨H8, F8⟩ := H1.drew.putStat (j := c * 7 + 4) (by omega) (inc64 sv)
          rw [← Nat.add_assoc] at H8 F8
          exact ⟨H8, R4.blk (far_set n4D), (Mw.below (below_dr (Below.refl _ _))).then F8, o4, Nat.le_trans hbs F8.size, F9.blk (far_set n9D)⟩
      case rest =>
      clear H1 R4 Mw o4 hbs s0 F9 u1 fz
      obtain ⟨H1, R4, Mw, o4, hbs, F9⟩ := hcut
      obtain ⟨m3, hm3⟩ : ∃ m3, m3 = m2.setSt (c * 7 + 4) (inc64 sv) := ⟨_, rfl⟩
      rw [← hm3] at H1
      have HM3 := hideIt hm3
      clear hm3
      have hl4 := R4.lt
      have hl9 := F9.lt
      go_upto_region 9 with fail
      go_cut [10] (fun a10 wd => ∃ b10 : Nat, a10 = .pointer (some ⟨b10, 0, none⟩) ∧ MdlAt wd D base V2 m3 ∧ RowR wd w.heap.size #[.int .i64 0, .int .i64 0, .int .i64 0, .int .u64 0, .bool false, .int .i64 0, .int .i64 0, .int .u32 0, .int .u64 0, .int .u64 0, .int .u64 0, .int .u64 0, .int .u64 0, .int .u64 0, .slice none 0 0] ∧ MW D V V2 w wd ∧ Off V2 w.heap.size ∧ base ≤ wd.heap.size ∧ FourR wd b9 nx c d ck ∧ RowR wd b10 (resCs 0 (-1) (-1) 0 false msg0 none 0 0) ∧ Off V2 b10 ∧ b9 < b10)
      case first =>
        have HQ := hideIt (And.intro H1 (And.intro R4 (And.intro Mw (And.intro o4 (And.intro F9 hbs)))))
        clear H1 R4 Mw o4 F9 hbs
        go_wp2_with fail
        refine (answer_any 0 wc).mono ?_
        rintro e w6 ⟨rfl, hb6⟩
        have hs6 := hb6.size
        have HB6 := hideIt hb6
        clear hb6
        unfold resV
        go_wp2
        go_meet
        case rel =>
          obtain ⟨H5, R5, M5, o5, F5, hbs⟩ := HQ.out
          have b1 := one_alloc w6 (.cells (resCs 0 (-1) (-1) 0 false msg0 none 0 0) 43)
          have bb := HB6.out.trans (b1.mono hs6)
          exact ⟨w6.heap.size, rfl, H5.below bb, R5.blk (bb.block _ hl4), M5.below bb, o5, Nat.le_trans hbs bb.size, F5.blk (bb.block _ hl9), RowR.new w6 _, H5.off (by omega), by omega⟩
      case rest =>
      clear H1 R4 Mw o4 hbs F9 hl4 hl9
      obtain ⟨b10, rfl, H1, R4, Mw, o4, hbs, F9, R7, o7, h97⟩ := hcut
      have n7D : b10 ≠ D := by omega
      have n79 : b9 ≠ b10 := by omega
      have q1 := R7.cell (j := 1) rfl
      have q3 := R7.cell (j := 3) rfl
      have fz7 := R7.fz
      have u0 := F9.c0
      have u1 := F9.c1
      go_upto_region 10 with fail
      go_cut [] (fun wd => MdlAt wd D base V2 m3 ∧ RowR wd w.heap.size #[.int .i64 0, .int .i64 0, .int .i64 0, .int .u64 0, .bool false, .int .i64 0, .int .i64 0, .int .u32 0, .int .u64 0, .int .u64 0, .int .u64 0, .int .u64 0, .int .u64 0, .int .u64 0, .slice none 0 0] ∧ MW D V V2 w wd ∧ Off V2 w.heap.size ∧ base ≤ wd.heap.size ∧ RowR wd b10 (resCs 0 (c : Int) (-1) nx false msg0 none 0 0))
      case first =>
        go_region_held3 (fun w' => w'.cell? ⟨b9, 1, none⟩ = some (.int .i64 (c : Int)) ∧ w'.cell? ⟨b9, 0, none⟩ = some (.int .u64 nx)) (first | exact ⟨u1, u0⟩ | (refine ⟨?_, ?_⟩ <;> go_simp)) (fail)
        go_wp2
        go_meet
        case rel =>
          exact ⟨((H1.other n7D o7).other n7D o7).drew, R4.blk ((far_set (show w.heap.size ≠ b10 by omega)).trans (far_set (show w.heap.size ≠ b10 by omega))), ((Mw.set (by omega)).set (by omega)).below (below_dr (Below.refl _ _)), o4, by simpa using hbs, (R7.set.set).blk rfl⟩
      case rest =>
      clear H1 R4 Mw o4 hbs F9 R7 q1 q3 fz7 u0 u1
      obtain ⟨H1, R4, Mw, o4, hbs, R7⟩ := hcut
      have hl43 := R7.load rfl
      have hs43 := R4.store rfl (cs := (resCs 0 (c : Int) (-1) nx false msg0 none 0 0)) rfl (resCs_one _ _ _ _ _ _ _ _ _)
      go_upto_region 11 with fail
      go_wp2_with (first | (refine wpList_load_row rfl (.tmp 10) 43 rfl ⟨b10, 0, none⟩ (.agg (resCs 0 (c : Int) (-1) nx false msg0 none 0 0)) rfl hl43 ?_) | (refine wpList_store_row rfl (.tmp 8) (.tmp 67) 43 rfl ⟨w.heap.size, 0, none⟩ (.agg (resCs 0 (c : Int) (-1) nx false msg0 none 0 0)) rfl rfl hs43 ?_) | go_in)
      refine bodyPost_ret (v := .agg (resCs 0 (c : Int) (-1) nx false msg0 none 0 0)) (results_cell_row rfl _ _ w.heap.size 43 _ (0, 0) _ rfl R4.row Tryz.underlying43 rfl sz43) rfl ⟨V2, 0, c, nx, m3, rfl, .inr ⟨⟨c0, c1⟩, .inr ⟨HF.out, rfl, rfl, HNX.out, ?_⟩⟩, H1.otherRow n4D o4, (Mw.row (by omega)).fr⟩
      rw [HM3.out, HSV.out, HM2.out, HM1.out, HLL.out, HNX.out]
      rfl
  · have hca := fun w => isCore_any cc w
    rw [decide_eq_false hc] at hca
    have HN := hideIt hc
    clear hc
    go_wp2_with fail
    refine (hca _).mono ?_
    rintro e wc ⟨rfl, rfl⟩
    have han := answer_r 4 wc
    go_wp2_with fail
    refine han.mono ?_
    rintro e w5 ⟨rfl, hb5⟩
    have R5 := R4.blk (hb5.block _ R4.lt)
    have hs43 := R5.store rfl (cs := (resCs 4 (-1) (-1) 0 false msg0 none 0 0)) rfl (resCs_one _ _ _ _ _ _ _ _ _)
    have HB5 := hideIt hb5
    clear han hb5
    go_wp2_with (first | (refine wpList_store_row rfl (.tmp 8) (.tmp 14) 43 rfl ⟨w.heap.size, 0, none⟩ (.agg (resCs 4 (-1) (-1) 0 false msg0 none 0 0)) rfl rfl hs43 ?_) | go_in)
    have H5 := (H1.below HB5.out).otherRow (b := w.heap.size) (cs := (resCs 4 (-1) (-1) 0 false msg0 none 0 0)) n4D o4
    have M5 := (Mw.below HB5.out).row (b := w.heap.size) (cs := (resCs 4 (-1) (-1) 0 false msg0 none 0 0)) (Nat.le_refl _)
    refine bodyPost_ret (v := .agg (resCs 4 (-1) (-1) 0 false msg0 none 0 0)) (results_cell_row rfl _ _ w.heap.size 43 _ (0, 0) _ rfl R5.row Tryz.underlying43 rfl sz43) rfl ⟨V, 4, -1, 0, m, rfl, .inl ⟨HN.out, rfl, rfl, rfl, rfl⟩, H5, M5.fr⟩
end Go.Proofs.Qxb6500877aGreatDoor
