import Derived.Deep.CutBlock
import Derived.OwnWalk
import Derived.Maps.AppendAt
import Derived.Test.Qxb6500877aGreatDoorAj
set_option linter.unusedVariables false
set_option linter.unusedSimpArgs false
namespace Go.Proofs.Qxb6500877aGreatDoor
open Go.RowKit

theorem cell_nine_new (w : World) (m : MsgV) (t : TypeId) : ∀ j u, (msg9 m)[j]? = some u → (w.alloc (.cells #[.int .i64 m.mf, .int .i64 m.mt, .int .u32 m.md, .int .u64 m.mq, .int .u64 m.ma, .int .u64 m.x0, .int .u64 m.x1, .int .u64 m.x2, .int .u64 m.x3] t)).cell? ((⟨w.heap.size, 0, none⟩ : Addr).add j) = some u := by
  intro j u hj
  unfold msg9 at hj
  match j, hj with
  | 0, hj => simp at hj; subst hj; simp [Addr.add]
  | 1, hj => simp at hj; subst hj; simp [Addr.add]
  | 2, hj => simp at hj; subst hj; simp [Addr.add]
  | 3, hj => simp at hj; subst hj; simp [Addr.add]
  | 4, hj => simp at hj; subst hj; simp [Addr.add]
  | 5, hj => simp at hj; subst hj; simp [Addr.add]
  | 6, hj => simp at hj; subst hj; simp [Addr.add]
  | 7, hj => simp at hj; subst hj; simp [Addr.add]
  | 8, hj => simp at hj; subst hj; simp [Addr.add]
  | j + 9, hj => simp at hj
theorem msg9_one (m : MsgV) : ∀ x ∈ msg9 m, x.oneCell' = true := by
  intro x hx
  unfold msg9 at hx
  simp at hx
  rcases hx with rfl | rfl | rfl | rfl | rfl | rfl | rfl | rfl | rfl <;> rfl
/-- A message enters the box of a pair, in the model. -/
def Mdl.post (m : Mdl) (x y : Nat) (o : OpS) : Mdl := ((m.setAc (x * 4 + y) (inc64 (m.ac (x * 4 + y)))).setBx (x * 4 + y) (m.bx (x * 4 + y) ++ [⟨(x : Int), (y : Int), o.c, inc64 (m.ac (x * 4 + y)), m.now, (o.x : Int), (o.y : Int), 0, 0⟩])).inc (x * 7 + 2)
set_option maxRecDepth 20000 in
set_option maxHeartbeats 8000000 in
theorem mpost_any {w : World} {D base : Nat} {V : Nat → Value} {m : Mdl} {x y : Nat} {o : OpS} (H : MdlAt w D base V m) (hbw : base ≤ w.heap.size) (hx : x < 4) (hy : y < 4) (hoc : 0 ≤ o.c ∧ o.c < 4294967296) (hl : (m.bx (x * 4 + y)).length ≤ 900) :
    Calls Tryz.prog 157 #[.pointer (some ⟨D, 0, none⟩), .int .i64 (x : Int), .int .i64 (y : Int), opV o] w fun e w' => ∃ V', e = .returned (.tuple #[]) ∧ MdlAt w' D base V' (m.post x y o) ∧ MFr D V V' w w' := by
  have hDl := H.dlt
  have hbox := fun w => box_any (w := w) hx hy
  have hcw : IntKind.u32.wrap o.c = o.c := by rw [IntKind.wrap_u32]; omega
  obtain ⟨i0_, hi_, hz0, hz1, hz2⟩ := info_parts info40
  have n4D : w.heap.size ≠ D := by omega
  have x0 : (0 : Int) ≤ x := by omega
  have x1 : (x : Int) < 4 := by omega
  have hb16 : x * 4 + y < 16 := by omega
  unfold opV
  go_enter Tryz.func157, Tryz.ntmps157
  go_wp2_with fail
  refine (hbox _).mono ?_
  rintro e wa ⟨rfl, e⟩
  have ea : wa = w.alloc (.cells #[.int .u8 o.kd, .int .i64 o.a, .int .i64 o.b, .int .i64 o.c, .int .u64 o.x, .int .u64 o.y] 32) := e
  clear e hbox
  have ba : Below w.heap.size w wa := by rw [ea]; exact one_alloc w _
  have oa : OpAt wa w.heap.size o := by rw [ea]; exact op_new w o 32
  have hF : MdlAt wa D base V m ∧ OpAt wa w.heap.size o ∧ MW D V V w wa ∧ Off V w.heap.size ∧ base ≤ wa.heap.size := ⟨H.below ba, oa, ((MFr.refl D V w).below ba).mw, H.off (Nat.le_refl _), Nat.le_trans hbw ba.size⟩
  have HPO : Hid (m.post x y o = ((m.setAc (x * 4 + y) (inc64 (m.ac (x * 4 + y)))).setBx (x * 4 + y) (m.bx (x * 4 + y) ++ [⟨(x : Int), (y : Int), o.c, inc64 (m.ac (x * 4 + y)), m.now, (o.x : Int), (o.y : Int), 0, 0⟩])).inc (x * 7 + 2)) := hideIt rfl
  clear ea ba oa
  generalize hbb : x * 4 + y = b at *
  clear hbb
  have b0 : (0 : Int) ≤ b := by omega
  have b1 : (b : Int) < 16 := by omega
  obtain ⟨H1, OP, Mw, o4, hbs⟩ := hF
  have s0 := H1.accc hb16
  have hsx : ∃ au, au = m.ac b := ⟨_, rfl⟩
  obtain ⟨au, hau⟩ := hsx
  rw [← hau] at s0 HPO
  clear hau
  have fz := H1.fz
  go_upto_region 2 with fail
  go_cut [] (fun wd => MdlAt wd D base V (m.setAc b (inc64 au)) ∧ OpAt wd w.heap.size o ∧ MW D V V w wd ∧ Off V w.heap.size ∧ base ≤ wd.heap.size)
  case first =>
    refine wp_region_l (l := 10) (S := (fun w' => w'.cell? ⟨D, 69 + b, none⟩ = some (.int .u64 au))) (by kernel_rfl) s0 (fun hHeld => ?_)
    refine AnyL.take2 (i := 0) (oi := { dst := some 12, op := Go.Op.move (Go.Operand.tmp 0), type := 26, pos := _, after := #[], guard := none }) (v := ?vv1) (by kernel_rfl) (by kernel_rfl) rfl (by kernel_rfl) (by kernel_rfl) (by kernel_rfl) (fun _ _ _ h => h) (Or.inl ⟨by rfl, ?hy1⟩) (by assumption) ?tk1
    case hy1 => (intro w hSw; (try dsimp only at hSw); go_simp; (try with_reducible rfl))
    try simp only [Act.put, List.setIfInBounds_toArray, List.set_cons_zero, List.set_cons_succ]
    refine AnyL.take2 (i := 1) (oi := { dst := some 13, op := Go.Op.move (Go.Operand.tmp 8), type := 65, pos := _, after := #[], guard := none }) (v := ?vv2) (by kernel_rfl) (by kernel_rfl) rfl (by kernel_rfl) (by kernel_rfl) (by kernel_rfl) (fun _ _ _ h => h) (Or.inl ⟨by rfl, ?hy2⟩) (by assumption) ?tk2
    case hy2 => (intro w hSw; (try dsimp only at hSw); go_simp; (try with_reducible rfl))
    try simp only [Act.put, List.setIfInBounds_toArray, List.set_cons_zero, List.set_cons_succ]
    refine AnyL.take2 (i := 2) (oi := { dst := some 14, op := Go.Op.nilCheck (Go.Operand.tmp 12), type := 0, pos := _, after := #[{ on := 0, ground := Go.Ground.data }], guard := none }) (v := ?vv3) (by kernel_rfl) (by kernel_rfl) rfl (by kernel_rfl) (by kernel_rfl) (by kernel_rfl) (fun _ _ _ h => h) (Or.inl ⟨by rfl, ?hy3⟩) (by assumption) ?tk3
    case hy3 => (intro w hSw; (try dsimp only at hSw); go_simp; (try with_reducible rfl))
    try simp only [Act.put, List.setIfInBounds_toArray, List.set_cons_zero, List.set_cons_succ]
    refine AnyL.take2 (i := 3) (oi := { dst := some 15, op := Go.Op.fieldAddr 135 (Go.Operand.tmp 14) 4, type := 0, pos := _, after := #[{ on := 2, ground := Go.Ground.data }], guard := none }) (v := ?vv4) (by kernel_rfl) (by kernel_rfl) rfl (by kernel_rfl) (by kernel_rfl) (by kernel_rfl) (fun _ _ _ h => h) (Or.inl ⟨by rfl, ?hy4⟩) (by assumption) ?tk4
    case hy4 => (intro w hSw; (try dsimp only at hSw); go_simp; (try with_reducible rfl))
    try simp only [Act.put, List.setIfInBounds_toArray, List.set_cons_zero, List.set_cons_succ]
    refine AnyL.take2 (i := 4) (oi := { dst := some 16, op := Go.Op.indexAddr 58 (Go.Operand.tmp 15) (Go.Operand.tmp 13), type := 0, pos := _, after := #[{ on := 3, ground := Go.Ground.data }, { on := 1, ground := Go.Ground.data }], guard := none }) (v := ?vv5) (by kernel_rfl) (by kernel_rfl) rfl (by kernel_rfl) (by kernel_rfl) (by kernel_rfl) (fun _ _ _ h => h) (Or.inl ⟨by rfl, ?hy5⟩) (by assumption) ?tk5
    case hy5 => (intro w hSw; (try dsimp only at hSw); go_simp; (try with_reducible rfl))
    try simp only [Act.put, List.setIfInBounds_toArray, List.set_cons_zero, List.set_cons_succ]
    refine AnyL.take2 (i := 5) (oi := { dst := some 17, op := Go.Op.load 28 (Go.Operand.tmp 16), type := 28, pos := _, after := #[{ on := 4, ground := Go.Ground.data }], guard := none }) (v := ?vv6) (by kernel_rfl) (by kernel_rfl) rfl (by kernel_rfl) (by kernel_rfl) (by kernel_rfl) (fun _ _ _ h => h) (Or.inl ⟨by rfl, ?hy6⟩) (by assumption) ?tk6
    case hy6 => (intro w hSw; (try dsimp only at hSw); go_simp; (try with_reducible rfl))
    try simp only [Act.put, List.setIfInBounds_toArray, List.set_cons_zero, List.set_cons_succ]
    refine AnyL.take2 (i := 6) (oi := { dst := some 18, op := Go.Op.binOp Go.BinOp.add 28 (Go.Operand.tmp 17) (Go.Operand.const (Go.Value.int Go.IntKind.u64 1)) 28, type := 28, pos := _, after := #[{ on := 5, ground := Go.Ground.data }], guard := none }) (v := ?vv7) (by kernel_rfl) (by kernel_rfl) rfl (by kernel_rfl) (by kernel_rfl) (by kernel_rfl) (fun _ _ _ h => h) (Or.inl ⟨by rfl, ?hy7⟩) (by assumption) ?tk7
    case hy7 => (intro w hSw; (try dsimp only at hSw); go_simp; (try with_reducible rfl))
    try simp only [Act.put, List.setIfInBounds_toArray, List.set_cons_zero, List.set_cons_succ]
    refine AnyL.take2 (i := 7) (oi := { dst := some 19, op := Go.Op.nilCheck (Go.Operand.tmp 12), type := 0, pos := _, after := #[{ on := 0, ground := Go.Ground.data }], guard := none }) (v := ?vv8) (by kernel_rfl) (by kernel_rfl) rfl (by kernel_rfl) (by kernel_rfl) (by kernel_rfl) (fun _ _ _ h => h) (Or.inl ⟨by rfl, ?hy8⟩) (by assumption) ?tk8
    case hy8 => (intro w hSw; (try dsimp only at hSw); go_simp; (try with_reducible rfl))
    try simp only [Act.put, List.setIfInBounds_toArray, List.set_cons_zero, List.set_cons_succ]
    refine AnyL.take2 (i := 8) (oi := { dst := some 20, op := Go.Op.fieldAddr 135 (Go.Operand.tmp 19) 4, type := 0, pos := _, after := #[{ on := 7, ground := Go.Ground.data }], guard := none }) (v := ?vv9) (by kernel_rfl) (by kernel_rfl) rfl (by kernel_rfl) (by kernel_rfl) (by kernel_rfl) (fun _ _ _ h => h) (Or.inl ⟨by rfl, ?hy9⟩) (by assumption) ?tk9
    case hy9 => (intro w hSw; (try dsimp only at hSw); go_simp; (try with_reducible rfl))
    try simp only [Act.put, List.setIfInBounds_toArray, List.set_cons_zero, List.set_cons_succ]
    refine AnyL.take2 (i := 9) (oi := { dst := some 21, op := Go.Op.indexAddr 58 (Go.Operand.tmp 20) (Go.Operand.tmp 13), type := 0, pos := _, after := #[{ on := 8, ground := Go.Ground.data }, { on := 1, ground := Go.Ground.data }, { on := 0, ground := Go.Ground.phase }, { on := 1, ground := Go.Ground.phase }, { on := 2, ground := Go.Ground.phase }, { on := 3, ground := Go.Ground.phase }, { on := 4, ground := Go.Ground.phase }, { on := 5, ground := Go.Ground.phase }, { on := 6, ground := Go.Ground.phase }], guard := none }) (v := ?vv10) (by kernel_rfl) (by kernel_rfl) rfl (by kernel_rfl) (by kernel_rfl) (by kernel_rfl) (fun _ _ _ h => h) (Or.inl ⟨by rfl, ?hy10⟩) (by assumption) ?tk10
    case hy10 => (intro w hSw; (try dsimp only at hSw); go_simp; (try with_reducible rfl))
    try simp only [Act.put, List.setIfInBounds_toArray, List.set_cons_zero, List.set_cons_succ]
    refine AnyL.last (o := { dst := none, op := Go.Op.store 28 (Go.Operand.tmp 21) (Go.Operand.tmp 18), type := 0, pos := _, after := #[{ on := 9, ground := Go.Ground.data }, { on := 6, ground := Go.Ground.data }, { on := 0, ground := Go.Ground.phase }, { on := 1, ground := Go.Ground.phase }, { on := 2, ground := Go.Ground.phase }, { on := 3, ground := Go.Ground.phase }, { on := 4, ground := Go.Ground.phase }, { on := 5, ground := Go.Ground.phase }, { on := 6, ground := Go.Ground.phase }], guard := none }) (by kernel_rfl) rfl (by kernel_rfl) (fun K' hK' => ?_)
    go_simp
    clear hHeld
    refine hK'.out _ _ ?_
    clear hK' K'
    try simp only [Act.put, List.setIfInBounds_toArray, List.set_cons_zero, List.set_cons_succ]
    go_wp2
    go_meet
    case rel =>
      obtain ⟨H8, F8⟩ := H1.drew.putAc hb16 (inc64 au)
      exact ⟨H8, OP.blk (far_set n4D), (Mw.below (below_dr (Below.refl _ _))).then F8, o4, Nat.le_trans hbs F8.size⟩
  case rest =>
  clear H1 OP Mw o4 hbs s0 fz
  obtain ⟨H1, OP, Mw, o4, hbs⟩ := hcut
  obtain ⟨s0, hown⟩ := H1.brow hb16
  obtain ⟨pv, cap, ev⟩ := own_shape hown
  rw [ev] at s0 hown
  have e1 : (m.setAc b (inc64 au)).bx b = m.bx b := rfl
  rw [e1] at s0 hown ev
  have a0 := H1.accc hb16
  have e2 : (m.setAc b (inc64 au)).ac b = inc64 au := upd_same _ _ _
  rw [e2] at a0
  have t0 := H1.nowc
  have e3 : (m.setAc b (inc64 au)).now = m.now := rfl
  rw [e3] at t0
  clear e1 e2 e3
  obtain ⟨g0, g1, g2, g3, g4, g5⟩ := OP
  have OP : OpAt wc w.heap.size o := ⟨g0, g1, g2, g3, g4, g5⟩
  have hDw := H1.dlt
  have hPw := OP.lt
  have hDr : some D ≠ (Value.slice pv (m.bx b).length cap).ownBlock := fun e => by have := (hown.lt D e.symm).1; have := H1.lt; omega
  have hPr : some w.heap.size ≠ (Value.slice pv (m.bx b).length cap).ownBlock := fun e => o4 (4 + b) (by omega) (by rw [ev]; exact e.symm)
  have fz := H1.fz
  have n5 : ¬ (53 + b = 69 + b) := by omega
  obtain ⟨m1, hm1⟩ : ∃ m1, m1 = m.setAc b (inc64 au) := ⟨_, rfl⟩
  rw [← hm1] at H1 HPO
  clear hm1
  obtain ⟨av, hav⟩ : ∃ av, av = inc64 au := ⟨_, rfl⟩
  rw [← hav] at a0 HPO
  clear hav
  obtain ⟨nw, hnw⟩ : ∃ nw, nw = m.now := ⟨_, rfl⟩
  rw [← hnw] at t0 HPO
  clear hnw
  obtain ⟨l, hll⟩ : ∃ l, l = m.bx b := ⟨_, rfl⟩
  rw [← hll] at s0 hown ev hDr hPr hl HPO
  clear hll
  obtain ⟨n, hn⟩ : ∃ n, n = l.length := ⟨_, rfl⟩
  rw [← hn] at s0 hown ev hDr hPr hl
  have HN := hideIt hn
  clear hn
  go_upto_region 3 with fail
  go_cut [] (fun wd => ∃ V2, MdlAt wd D base V2 (m1.setBx b (l ++ [(⟨(x : Int), (y : Int), o.c, av, nw, (o.x : Int), (o.y : Int), 0, 0⟩ : MsgV)])) ∧ OpAt wd w.heap.size o ∧ MW D V V2 w wd ∧ Off V2 w.heap.size ∧ base ≤ wd.heap.size)
  case first =>
    refine wp_region_l (l := 34) (S := (fun w' => w'.cell? ⟨D, 53 + b, none⟩ = some (.slice pv n cap) ∧ w'.cell? ⟨w.heap.size, 3, none⟩ = some (.int .i64 o.c) ∧ w'.cell? ⟨w.heap.size, 4, none⟩ = some (.int .u64 o.x) ∧ w'.cell? ⟨w.heap.size, 5, none⟩ = some (.int .u64 o.y) ∧ w'.cell? ⟨D, 69 + b, none⟩ = some (.int .u64 av) ∧ w'.cell? ⟨D, 0, none⟩ = some (.int .u64 nw))) (by kernel_rfl) ⟨s0, g3, g4, g5, a0, t0⟩ (fun hHeld => ?_)
    refine AnyL.take2 (i := 0) (oi := { dst := some 22, op := Go.Op.move (Go.Operand.tmp 0), type := 26, pos := _, after := #[], guard := none }) (v := ?vv23) (by kernel_rfl) (by kernel_rfl) rfl (by kernel_rfl) (by kernel_rfl) (by kernel_rfl) (fun _ _ _ h => h) (Or.inl ⟨by rfl, ?hy23⟩) (by assumption) ?tk23
    case hy23 => (intro w hSw; (try dsimp only at hSw); go_simp; (try with_reducible rfl))
    try simp only [Act.put, List.setIfInBounds_toArray, List.set_cons_zero, List.set_cons_succ]
    refine AnyL.take2 (i := 1) (oi := { dst := some 23, op := Go.Op.move (Go.Operand.tmp 8), type := 65, pos := _, after := #[], guard := none }) (v := ?vv24) (by kernel_rfl) (by kernel_rfl) rfl (by kernel_rfl) (by kernel_rfl) (by kernel_rfl) (fun _ _ _ h => h) (Or.inl ⟨by rfl, ?hy24⟩) (by assumption) ?tk24
    case hy24 => (intro w hSw; (try dsimp only at hSw); go_simp; (try with_reducible rfl))
    try simp only [Act.put, List.setIfInBounds_toArray, List.set_cons_zero, List.set_cons_succ]
    refine AnyL.take2 (i := 2) (oi := { dst := some 24, op := Go.Op.move (Go.Operand.tmp 0), type := 26, pos := _, after := #[], guard := none }) (v := ?vv25) (by kernel_rfl) (by kernel_rfl) rfl (by kernel_rfl) (by kernel_rfl) (by kernel_rfl) (fun _ _ _ h => h) (Or.inl ⟨by rfl, ?hy25⟩) (by assumption) ?tk25
    case hy25 => (intro w hSw; (try dsimp only at hSw); go_simp; (try with_reducible rfl))
    try simp only [Act.put, List.setIfInBounds_toArray, List.set_cons_zero, List.set_cons_succ]
    refine AnyL.take2 (i := 3) (oi := { dst := some 25, op := Go.Op.move (Go.Operand.tmp 8), type := 65, pos := _, after := #[], guard := none }) (v := ?vv26) (by kernel_rfl) (by kernel_rfl) rfl (by kernel_rfl) (by kernel_rfl) (by kernel_rfl) (fun _ _ _ h => h) (Or.inl ⟨by rfl, ?hy26⟩) (by assumption) ?tk26
    case hy26 => (intro w hSw; (try dsimp only at hSw); go_simp; (try with_reducible rfl))
    try simp only [Act.put, List.setIfInBounds_toArray, List.set_cons_zero, List.set_cons_succ]
    refine AnyL.take2 (i := 4) (oi := { dst := some 26, op := Go.Op.nilCheck (Go.Operand.tmp 24), type := 0, pos := _, after := #[{ on := 2, ground := Go.Ground.data }], guard := none }) (v := ?vv27) (by kernel_rfl) (by kernel_rfl) rfl (by kernel_rfl) (by kernel_rfl) (by kernel_rfl) (fun _ _ _ h => h) (Or.inl ⟨by rfl, ?hy27⟩) (by assumption) ?tk27
    case hy27 => (intro w hSw; (try dsimp only at hSw); go_simp; (try with_reducible rfl))
    try simp only [Act.put, List.setIfInBounds_toArray, List.set_cons_zero, List.set_cons_succ]
    refine AnyL.take2 (i := 5) (oi := { dst := some 27, op := Go.Op.fieldAddr 135 (Go.Operand.tmp 26) 3, type := 0, pos := _, after := #[{ on := 4, ground := Go.Ground.data }], guard := none }) (v := ?vv28) (by kernel_rfl) (by kernel_rfl) rfl (by kernel_rfl) (by kernel_rfl) (by kernel_rfl) (fun _ _ _ h => h) (Or.inl ⟨by rfl, ?hy28⟩) (by assumption) ?tk28
    case hy28 => (intro w hSw; (try dsimp only at hSw); go_simp; (try with_reducible rfl))
    try simp only [Act.put, List.setIfInBounds_toArray, List.set_cons_zero, List.set_cons_succ]
    refine AnyL.take2 (i := 6) (oi := { dst := some 28, op := Go.Op.indexAddr 57 (Go.Operand.tmp 27) (Go.Operand.tmp 25), type := 0, pos := _, after := #[{ on := 5, ground := Go.Ground.data }, { on := 3, ground := Go.Ground.data }], guard := none }) (v := ?vv29) (by kernel_rfl) (by kernel_rfl) rfl (by kernel_rfl) (by kernel_rfl) (by kernel_rfl) (fun _ _ _ h => h) (Or.inl ⟨by rfl, ?hy29⟩) (by assumption) ?tk29
    case hy29 => (intro w hSw; (try dsimp only at hSw); go_simp; (try with_reducible rfl))
    try simp only [Act.put, List.setIfInBounds_toArray, List.set_cons_zero, List.set_cons_succ]
    refine AnyL.take2 (i := 7) (oi := { dst := some 29, op := Go.Op.load 56 (Go.Operand.tmp 28), type := 56, pos := _, after := #[{ on := 6, ground := Go.Ground.data }], guard := none }) (v := ?vv30) (by kernel_rfl) (by kernel_rfl) rfl (by kernel_rfl) (by kernel_rfl) (by kernel_rfl) (fun _ _ _ h => h) (Or.inl ⟨by rfl, ?hy30⟩) (by assumption) ?tk30
    case hy30 => (intro w hSw; (try dsimp only at hSw); go_simp; (try with_reducible rfl))
    try simp only [Act.put, List.setIfInBounds_toArray, List.set_cons_zero, List.set_cons_succ]
    refine AnyL.take2 (i := 8) (oi := { dst := some 30, op := Go.Op.move (Go.Operand.tmp 1), type := 34, pos := _, after := #[], guard := none }) (v := ?vv31) (by kernel_rfl) (by kernel_rfl) rfl (by kernel_rfl) (by kernel_rfl) (by kernel_rfl) (fun _ _ _ h => h) (Or.inl ⟨by rfl, ?hy31⟩) (by assumption) ?tk31
    case hy31 => (intro w hSw; (try dsimp only at hSw); go_simp; (try with_reducible rfl))
    try simp only [Act.put, List.setIfInBounds_toArray, List.set_cons_zero, List.set_cons_succ]
    refine AnyL.take2 (i := 9) (oi := { dst := some 31, op := Go.Op.move (Go.Operand.tmp 2), type := 34, pos := _, after := #[], guard := none }) (v := ?vv32) (by kernel_rfl) (by kernel_rfl) rfl (by kernel_rfl) (by kernel_rfl) (by kernel_rfl) (fun _ _ _ h => h) (Or.inl ⟨by rfl, ?hy32⟩) (by assumption) ?tk32
    case hy32 => (intro w hSw; (try dsimp only at hSw); go_simp; (try with_reducible rfl))
    try simp only [Act.put, List.setIfInBounds_toArray, List.set_cons_zero, List.set_cons_succ]
    refine AnyL.take2 (i := 10) (oi := { dst := some 32, op := Go.Op.fieldAddr 32 (Go.Operand.tmp 7) 3, type := 0, pos := _, after := #[], guard := none }) (v := ?vv33) (by kernel_rfl) (by kernel_rfl) rfl (by kernel_rfl) (by kernel_rfl) (by kernel_rfl) (fun _ _ _ h => h) (Or.inl ⟨by rfl, ?hy33⟩) (by assumption) ?tk33
    case hy33 => (intro w hSw; (try dsimp only at hSw); go_simp; (try with_reducible rfl))
    try simp only [Act.put, List.setIfInBounds_toArray, List.set_cons_zero, List.set_cons_succ]
    refine AnyL.take2 (i := 11) (oi := { dst := some 33, op := Go.Op.load 2 (Go.Operand.tmp 32), type := 2, pos := _, after := #[{ on := 10, ground := Go.Ground.data }], guard := none }) (v := ?vv34) (by kernel_rfl) (by kernel_rfl) rfl (by kernel_rfl) (by kernel_rfl) (by kernel_rfl) (fun _ _ _ h => h) (Or.inl ⟨by rfl, ?hy34⟩) (by assumption) ?tk34
    case hy34 => (intro w hSw; (try dsimp only at hSw); go_simp; (try with_reducible rfl))
    try simp only [Act.put, List.setIfInBounds_toArray, List.set_cons_zero, List.set_cons_succ]
    refine AnyL.take2 (i := 12) (oi := { dst := some 34, op := Go.Op.convert 2 37 (Go.Operand.tmp 33), type := 37, pos := _, after := #[{ on := 11, ground := Go.Ground.data }], guard := none }) (v := ?vv35) (by kernel_rfl) (by kernel_rfl) rfl (by kernel_rfl) (by kernel_rfl) (by kernel_rfl) (fun _ _ _ h => h) (Or.inl ⟨by rfl, ?hy35⟩) (by assumption) ?tk35
    case hy35 => (intro w hSw; (try dsimp only at hSw); go_simp; (try with_reducible rfl))
    try simp only [Act.put, List.setIfInBounds_toArray, List.set_cons_zero, List.set_cons_succ]
    refine AnyL.take2 (i := 13) (oi := { dst := some 35, op := Go.Op.move (Go.Operand.tmp 0), type := 26, pos := _, after := #[], guard := none }) (v := ?vv36) (by kernel_rfl) (by kernel_rfl) rfl (by kernel_rfl) (by kernel_rfl) (by kernel_rfl) (fun _ _ _ h => h) (Or.inl ⟨by rfl, ?hy36⟩) (by assumption) ?tk36
    case hy36 => (intro w hSw; (try dsimp only at hSw); go_simp; (try with_reducible rfl))
    try simp only [Act.put, List.setIfInBounds_toArray, List.set_cons_zero, List.set_cons_succ]
    refine AnyL.take2 (i := 14) (oi := { dst := some 36, op := Go.Op.move (Go.Operand.tmp 8), type := 65, pos := _, after := #[], guard := none }) (v := ?vv37) (by kernel_rfl) (by kernel_rfl) rfl (by kernel_rfl) (by kernel_rfl) (by kernel_rfl) (fun _ _ _ h => h) (Or.inl ⟨by rfl, ?hy37⟩) (by assumption) ?tk37
    case hy37 => (intro w hSw; (try dsimp only at hSw); go_simp; (try with_reducible rfl))
    try simp only [Act.put, List.setIfInBounds_toArray, List.set_cons_zero, List.set_cons_succ]
    refine AnyL.take2 (i := 15) (oi := { dst := some 37, op := Go.Op.nilCheck (Go.Operand.tmp 35), type := 0, pos := _, after := #[{ on := 13, ground := Go.Ground.data }], guard := none }) (v := ?vv38) (by kernel_rfl) (by kernel_rfl) rfl (by kernel_rfl) (by kernel_rfl) (by kernel_rfl) (fun _ _ _ h => h) (Or.inl ⟨by rfl, ?hy38⟩) (by assumption) ?tk38
    case hy38 => (intro w hSw; (try dsimp only at hSw); go_simp; (try with_reducible rfl))
    try simp only [Act.put, List.setIfInBounds_toArray, List.set_cons_zero, List.set_cons_succ]
    refine AnyL.take2 (i := 16) (oi := { dst := some 38, op := Go.Op.fieldAddr 135 (Go.Operand.tmp 37) 4, type := 0, pos := _, after := #[{ on := 15, ground := Go.Ground.data }], guard := none }) (v := ?vv39) (by kernel_rfl) (by kernel_rfl) rfl (by kernel_rfl) (by kernel_rfl) (by kernel_rfl) (fun _ _ _ h => h) (Or.inl ⟨by rfl, ?hy39⟩) (by assumption) ?tk39
    case hy39 => (intro w hSw; (try dsimp only at hSw); go_simp; (try with_reducible rfl))
    try simp only [Act.put, List.setIfInBounds_toArray, List.set_cons_zero, List.set_cons_succ]
    refine AnyL.take2 (i := 17) (oi := { dst := some 39, op := Go.Op.indexAddr 58 (Go.Operand.tmp 38) (Go.Operand.tmp 36), type := 0, pos := _, after := #[{ on := 16, ground := Go.Ground.data }, { on := 14, ground := Go.Ground.data }], guard := none }) (v := ?vv40) (by kernel_rfl) (by kernel_rfl) rfl (by kernel_rfl) (by kernel_rfl) (by kernel_rfl) (fun _ _ _ h => h) (Or.inl ⟨by rfl, ?hy40⟩) (by assumption) ?tk40
    case hy40 => (intro w hSw; (try dsimp only at hSw); go_simp; (try with_reducible rfl))
    try simp only [Act.put, List.setIfInBounds_toArray, List.set_cons_zero, List.set_cons_succ]
    refine AnyL.take2 (i := 18) (oi := { dst := some 40, op := Go.Op.load 28 (Go.Operand.tmp 39), type := 28, pos := _, after := #[{ on := 17, ground := Go.Ground.data }], guard := none }) (v := ?vv41) (by kernel_rfl) (by kernel_rfl) rfl (by kernel_rfl) (by kernel_rfl) (by kernel_rfl) (fun _ _ _ h => h) (Or.inl ⟨by rfl, ?hy41⟩) (by assumption) ?tk41
    case hy41 => (intro w hSw; (try dsimp only at hSw); go_simp; (try with_reducible rfl))
    try simp only [Act.put, List.setIfInBounds_toArray, List.set_cons_zero, List.set_cons_succ]
    refine AnyL.take2 (i := 19) (oi := { dst := some 41, op := Go.Op.move (Go.Operand.tmp 0), type := 26, pos := _, after := #[], guard := none }) (v := ?vv42) (by kernel_rfl) (by kernel_rfl) rfl (by kernel_rfl) (by kernel_rfl) (by kernel_rfl) (fun _ _ _ h => h) (Or.inl ⟨by rfl, ?hy42⟩) (by assumption) ?tk42
    case hy42 => (intro w hSw; (try dsimp only at hSw); go_simp; (try with_reducible rfl))
    try simp only [Act.put, List.setIfInBounds_toArray, List.set_cons_zero, List.set_cons_succ]
    refine AnyL.take2 (i := 20) (oi := { dst := some 42, op := Go.Op.nilCheck (Go.Operand.tmp 41), type := 0, pos := _, after := #[{ on := 19, ground := Go.Ground.data }], guard := none }) (v := ?vv43) (by kernel_rfl) (by kernel_rfl) rfl (by kernel_rfl) (by kernel_rfl) (by kernel_rfl) (fun _ _ _ h => h) (Or.inl ⟨by rfl, ?hy43⟩) (by assumption) ?tk43
    case hy43 => (intro w hSw; (try dsimp only at hSw); go_simp; (try with_reducible rfl))
    try simp only [Act.put, List.setIfInBounds_toArray, List.set_cons_zero, List.set_cons_succ]
    refine AnyL.take2 (i := 21) (oi := { dst := some 43, op := Go.Op.fieldAddr 135 (Go.Operand.tmp 42) 0, type := 0, pos := _, after := #[{ on := 20, ground := Go.Ground.data }], guard := none }) (v := ?vv44) (by kernel_rfl) (by kernel_rfl) rfl (by kernel_rfl) (by kernel_rfl) (by kernel_rfl) (fun _ _ _ h => h) (Or.inl ⟨by rfl, ?hy44⟩) (by assumption) ?tk44
    case hy44 => (intro w hSw; (try dsimp only at hSw); go_simp; (try with_reducible rfl))
    try simp only [Act.put, List.setIfInBounds_toArray, List.set_cons_zero, List.set_cons_succ]
    refine AnyL.take2 (i := 22) (oi := { dst := some 44, op := Go.Op.load 29 (Go.Operand.tmp 43), type := 29, pos := _, after := #[{ on := 21, ground := Go.Ground.data }], guard := none }) (v := ?vv45) (by kernel_rfl) (by kernel_rfl) rfl (by kernel_rfl) (by kernel_rfl) (by kernel_rfl) (fun _ _ _ h => h) (Or.inl ⟨by rfl, ?hy45⟩) (by assumption) ?tk45
    case hy45 => (intro w hSw; (try dsimp only at hSw); go_simp; (try with_reducible rfl))
    try simp only [Act.put, List.setIfInBounds_toArray, List.set_cons_zero, List.set_cons_succ]
    refine AnyL.take2 (i := 23) (oi := { dst := some 45, op := Go.Op.fieldAddr 32 (Go.Operand.tmp 7) 4, type := 0, pos := _, after := #[], guard := none }) (v := ?vv46) (by kernel_rfl) (by kernel_rfl) rfl (by kernel_rfl) (by kernel_rfl) (by kernel_rfl) (fun _ _ _ h => h) (Or.inl ⟨by rfl, ?hy46⟩) (by assumption) ?tk46
    case hy46 => (intro w hSw; (try dsimp only at hSw); go_simp; (try with_reducible rfl))
    try simp only [Act.put, List.setIfInBounds_toArray, List.set_cons_zero, List.set_cons_succ]
    refine AnyL.take2 (i := 24) (oi := { dst := some 46, op := Go.Op.load 28 (Go.Operand.tmp 45), type := 28, pos := _, after := #[{ on := 23, ground := Go.Ground.data }], guard := none }) (v := ?vv47) (by kernel_rfl) (by kernel_rfl) rfl (by kernel_rfl) (by kernel_rfl) (by kernel_rfl) (fun _ _ _ h => h) (Or.inl ⟨by rfl, ?hy47⟩) (by assumption) ?tk47
    case hy47 => (intro w hSw; (try dsimp only at hSw); go_simp; (try with_reducible rfl))
    try simp only [Act.put, List.setIfInBounds_toArray, List.set_cons_zero, List.set_cons_succ]
    refine AnyL.take2 (i := 25) (oi := { dst := some 47, op := Go.Op.fieldAddr 32 (Go.Operand.tmp 7) 5, type := 0, pos := _, after := #[], guard := none }) (v := ?vv48) (by kernel_rfl) (by kernel_rfl) rfl (by kernel_rfl) (by kernel_rfl) (by kernel_rfl) (fun _ _ _ h => h) (Or.inl ⟨by rfl, ?hy48⟩) (by assumption) ?tk48
    case hy48 => (intro w hSw; (try dsimp only at hSw); go_simp; (try with_reducible rfl))
    try simp only [Act.put, List.setIfInBounds_toArray, List.set_cons_zero, List.set_cons_succ]
    refine AnyL.take2 (i := 26) (oi := { dst := some 48, op := Go.Op.load 28 (Go.Operand.tmp 47), type := 28, pos := _, after := #[{ on := 25, ground := Go.Ground.data }], guard := none }) (v := ?vv49) (by kernel_rfl) (by kernel_rfl) rfl (by kernel_rfl) (by kernel_rfl) (by kernel_rfl) (fun _ _ _ h => h) (Or.inl ⟨by rfl, ?hy49⟩) (by assumption) ?tk49
    case hy49 => (intro w hSw; (try dsimp only at hSw); go_simp; (try with_reducible rfl))
    try simp only [Act.put, List.setIfInBounds_toArray, List.set_cons_zero, List.set_cons_succ]
    refine AnyL.take2 (i := 27) (oi := { dst := some 49, op := Go.Op.build 38 #[(0, Go.Operand.tmp 46), (1, Go.Operand.tmp 48)], type := 38, pos := _, after := #[{ on := 24, ground := Go.Ground.data }, { on := 26, ground := Go.Ground.data }], guard := none }) (v := ?vv50) (by kernel_rfl) (by kernel_rfl) rfl (by kernel_rfl) (by kernel_rfl) (by kernel_rfl) (fun _ _ _ h => h) (Or.inl ⟨by rfl, ?hy50⟩) (by assumption) ?tk50
    case hy50 => (intro w hSw; (try dsimp only at hSw); go_simp; (try with_reducible rfl))
    try simp only [Act.put, List.setIfInBounds_toArray, List.set_cons_zero, List.set_cons_succ]
    refine AnyL.take2 (i := 28) (oi := { dst := some 50, op := Go.Op.build 40 #[(0, Go.Operand.tmp 30), (1, Go.Operand.tmp 31), (2, Go.Operand.tmp 34), (3, Go.Operand.tmp 40), (4, Go.Operand.tmp 44), (5, Go.Operand.tmp 49)], type := 40, pos := _, after := #[{ on := 8, ground := Go.Ground.data }, { on := 9, ground := Go.Ground.data }, { on := 12, ground := Go.Ground.data }, { on := 18, ground := Go.Ground.data }, { on := 22, ground := Go.Ground.data }, { on := 27, ground := Go.Ground.data }], guard := none }) (v := ?vv51) (by kernel_rfl) (by kernel_rfl) rfl (by kernel_rfl) (by kernel_rfl) (by kernel_rfl) (fun _ _ _ h => h) (Or.inl ⟨by rfl, ?hy51⟩) (by assumption) ?tk51
    case hy51 => (intro w hSw; (try dsimp only at hSw); go_simp; (try with_reducible rfl))
    try simp only [Act.put, List.setIfInBounds_toArray, List.set_cons_zero, List.set_cons_succ]
    refine AnyL.take2 (i := 31) (oi := { dst := some 53, op := Go.Op.nilCheck (Go.Operand.tmp 22), type := 0, pos := _, after := #[{ on := 0, ground := Go.Ground.data }], guard := none }) (v := ?vv52) (by kernel_rfl) (by kernel_rfl) rfl (by kernel_rfl) (by kernel_rfl) (by kernel_rfl) (fun _ _ _ h => h) (Or.inl ⟨by rfl, ?hy52⟩) (by assumption) ?tk52
    case hy52 => (intro w hSw; (try dsimp only at hSw); go_simp; (try with_reducible rfl))
    try simp only [Act.put, List.setIfInBounds_toArray, List.set_cons_zero, List.set_cons_succ]
    refine AnyL.take2 (i := 32) (oi := { dst := some 54, op := Go.Op.fieldAddr 135 (Go.Operand.tmp 53) 3, type := 0, pos := _, after := #[{ on := 31, ground := Go.Ground.data }], guard := none }) (v := ?vv53) (by kernel_rfl) (by kernel_rfl) rfl (by kernel_rfl) (by kernel_rfl) (by kernel_rfl) (fun _ _ _ h => h) (Or.inl ⟨by rfl, ?hy53⟩) (by assumption) ?tk53
    case hy53 => (intro w hSw; (try dsimp only at hSw); go_simp; (try with_reducible rfl))
    try simp only [Act.put, List.setIfInBounds_toArray, List.set_cons_zero, List.set_cons_succ]
    refine AnyL.one (i := 29) (o := { dst := some 51, op := Go.Op.buildSlice 56 1 #[(0, Go.Operand.tmp 50)], type := 56, pos := _, after := #[{ on := 28, ground := Go.Ground.data }], guard := none }) (by kernel_rfl) rfl rfl (fun K' hK' => ?_)
    go_simp
    clear hHeld
    refine hK'.out _ _ (by refine ⟨?_, ?_, ?_, ?_, ?_, ?_⟩ <;> go_simp) (fun hHeld => ?_)
    clear hK' K'
    try simp only [Act.put, List.setIfInBounds_toArray, List.set_cons_zero, List.set_cons_succ]
    refine AnyL.one (i := 30) (o := { dst := some 52, op := Go.Op.call { callee := Go.Callee.builtin Go.Builtin.append, args := #[Go.Operand.tmp 29, Go.Operand.tmp 51], argTypes := #[56, 56] }, type := 56, pos := _, after := #[{ on := 7, ground := Go.Ground.data }, { on := 29, ground := Go.Ground.data }], guard := none }) (by kernel_rfl) rfl rfl (fun K' hK' => ?_)
    refine ite_take (by rfl) ?_
    refine wp_append_own_at (.tmp 29) (.tmp 51) 56 rfl base 40 i0_ (.agg #[.int .i64 0, .int .i64 0, .int .u32 0, .int .u64 0, .int .u64 0, .int .u64 0, .int .u64 0, .int .u64 0, .int .u64 0]) 9 72 Tryz.underlying56 hi_ hz0 hz1 hz2 rfl (by decide) (.slice pv n cap) n (msgCells l) rfl (hown.alloc _) ⟨wc.heap.size, 0, none⟩ 1 1 (msg9 (⟨(x : Int), (y : Int), o.c, av, nw, (o.x : Int), (o.y : Int), 0, 0⟩ : MsgV)) rfl rfl (cell_nine_new _ (⟨(x : Int), (y : Int), o.c, av, nw, (o.x : Int), (o.y : Int), 0, 0⟩ : MsgV) _) (msg9_one _) (by unfold maxLen; omega) (by omega) (by simp; omega) ?_
    intro v' w3 hown' hgrow hblk
    obtain ⟨p', c', rfl⟩ := own_shape hown'
    have fz3 := fun o => (pushed_frozen hgrow hDw hDr o).trans (fz o)
    have k0 := hgrow.cell (a := ⟨D, 53 + b, none⟩) hHeld.1 hDr
    have k3 := hgrow.cell (a := ⟨w.heap.size, 3, none⟩) hHeld.2.1 hPr
    have k4 := hgrow.cell (a := ⟨w.heap.size, 4, none⟩) hHeld.2.2.1 hPr
    have k5 := hgrow.cell (a := ⟨w.heap.size, 5, none⟩) hHeld.2.2.2.1 hPr
    have k6 := hgrow.cell (a := ⟨D, 69 + b, none⟩) hHeld.2.2.2.2.1 hDr
    have k7 := hgrow.cell (a := ⟨D, 0, none⟩) hHeld.2.2.2.2.2 hDr
    have HG := hideIt (And.intro hown' (And.intro hgrow hblk))
    clear hown' hgrow hblk
    clear hHeld
    refine hK'.out _ _ ⟨k0, k3, k4, k5, k6, k7⟩ (fun hHeld => ?_)
    clear hK' K'
    try simp only [Act.put, List.setIfInBounds_toArray, List.set_cons_zero, List.set_cons_succ]
    refine AnyL.take2 (i := 33) (oi := { dst := some 55, op := Go.Op.indexAddr 57 (Go.Operand.tmp 54) (Go.Operand.tmp 23), type := 0, pos := _, after := #[{ on := 32, ground := Go.Ground.data }, { on := 1, ground := Go.Ground.data }, { on := 0, ground := Go.Ground.phase }, { on := 1, ground := Go.Ground.phase }, { on := 2, ground := Go.Ground.phase }, { on := 3, ground := Go.Ground.phase }, { on := 4, ground := Go.Ground.phase }, { on := 5, ground := Go.Ground.phase }, { on := 6, ground := Go.Ground.phase }, { on := 7, ground := Go.Ground.phase }, { on := 8, ground := Go.Ground.phase }, { on := 9, ground := Go.Ground.phase }, { on := 10, ground := Go.Ground.phase }, { on := 11, ground := Go.Ground.phase }, { on := 12, ground := Go.Ground.phase }, { on := 13, ground := Go.Ground.phase }, { on := 14, ground := Go.Ground.phase }, { on := 15, ground := Go.Ground.phase }, { on := 16, ground := Go.Ground.phase }, { on := 17, ground := Go.Ground.phase }, { on := 18, ground := Go.Ground.phase }, { on := 19, ground := Go.Ground.phase }, { on := 20, ground := Go.Ground.phase }, { on := 21, ground := Go.Ground.phase }, { on := 22, ground := Go.Ground.phase }, { on := 23, ground := Go.Ground.phase }, { on := 24, ground := Go.Ground.phase }, { on := 25, ground := Go.Ground.phase }, { on := 26, ground := Go.Ground.phase }, { on := 27, ground := Go.Ground.phase }, { on := 28, ground := Go.Ground.phase }, { on := 29, ground := Go.Ground.phase }, { on := 30, ground := Go.Ground.phase }], guard := none }) (v := ?vv54) (by kernel_rfl) (by kernel_rfl) rfl (by kernel_rfl) (by kernel_rfl) (by kernel_rfl) (fun _ _ _ h => h) (Or.inl ⟨by rfl, ?hy54⟩) (by assumption) ?tk54
    case hy54 => (intro w hSw; (try dsimp only at hSw); go_simp; (try with_reducible rfl))
    try simp only [Act.put, List.setIfInBounds_toArray, List.set_cons_zero, List.set_cons_succ]
    refine AnyL.last (o := { dst := none, op := Go.Op.store 56 (Go.Operand.tmp 55) (Go.Operand.tmp 52), type := 0, pos := _, after := #[{ on := 33, ground := Go.Ground.data }, { on := 30, ground := Go.Ground.data }, { on := 30, ground := Go.Ground.chain }, { on := 0, ground := Go.Ground.phase }, { on := 1, ground := Go.Ground.phase }, { on := 2, ground := Go.Ground.phase }, { on := 3, ground := Go.Ground.phase }, { on := 4, ground := Go.Ground.phase }, { on := 5, ground := Go.Ground.phase }, { on := 6, ground := Go.Ground.phase }, { on := 7, ground := Go.Ground.phase }, { on := 8, ground := Go.Ground.phase }, { on := 9, ground := Go.Ground.phase }, { on := 10, ground := Go.Ground.phase }, { on := 11, ground := Go.Ground.phase }, { on := 12, ground := Go.Ground.phase }, { on := 13, ground := Go.Ground.phase }, { on := 14, ground := Go.Ground.phase }, { on := 15, ground := Go.Ground.phase }, { on := 16, ground := Go.Ground.phase }, { on := 17, ground := Go.Ground.phase }, { on := 18, ground := Go.Ground.phase }, { on := 19, ground := Go.Ground.phase }, { on := 20, ground := Go.Ground.phase }, { on := 21, ground := Go.Ground.phase }, { on := 22, ground := Go.Ground.phase }, { on := 23, ground := Go.Ground.phase }, { on := 24, ground := Go.Ground.phase }, { on := 25, ground := Go.Ground.phase }, { on := 26, ground := Go.Ground.phase }, { on := 27, ground := Go.Ground.phase }, { on := 28, ground := Go.Ground.phase }, { on := 29, ground := Go.Ground.phase }, { on := 30, ground := Go.Ground.phase }], guard := none }) (by kernel_rfl) rfl (by kernel_rfl) (fun K' hK' => ?_)
    go_simp
    clear hHeld
    refine hK'.out _ _ ?_
    clear hK' K'
    try simp only [Act.put, List.setIfInBounds_toArray, List.set_cons_zero, List.set_cons_succ]
    go_wp2
    go_meet
    case rel =>
      obtain ⟨ho, hg, hk⟩ := HG.out
      have bd := below_dr (one_alloc wc (.cells #[.int .i64 (x : Int), .int .i64 (y : Int), .int .u32 o.c, .int .u64 av, .int .u64 nw, .int .u64 o.x, .int .u64 o.y, .int .u64 0, .int .u64 0] 40))
      obtain ⟨H8, F8⟩ := H1.newBx (l := l ++ [(⟨(x : Int), (y : Int), o.c, av, nw, (o.x : Int), (o.y : Int), 0, 0⟩ : MsgV)]) hb16 (w3 := w3) (by rw [ev]; exact grown_da hg bd) (by rw [msgCells_snoc, List.length_append, ← HN.out]; exact ho) (by rw [ev]; exact blk_da hk bd)
      exact ⟨_, H8, OP.blk (F8.keep o4 hPw n4D), Mw.then F8, F8.off o4 hPw, Nat.le_trans hbs F8.size⟩
  case rest =>
  clear H1 OP Mw o4 hbs s0 hown a0 t0 g0 g1 g2 g3 g4 g5 hDw hPw hDr hPr fz ev
  obtain ⟨V2, H1, OP, Mw, o4, hbs⟩ := hcut
  obtain ⟨m2, hm2⟩ : ∃ m2, m2 = m1.setBx b (l ++ [(⟨(x : Int), (y : Int), o.c, av, nw, (o.x : Int), (o.y : Int), 0, 0⟩ : MsgV)]) := ⟨_, rfl⟩
  rw [← hm2] at H1 HPO
  clear hm2
  have s0 := H1.stc (j := x * 7 + 2) (by omega)
  rw [← Nat.add_assoc] at s0
  obtain ⟨sv, hsv⟩ : ∃ sv, sv = m2.st (x * 7 + 2) := ⟨_, rfl⟩
  rw [← hsv] at s0
  have HSV := hideIt hsv
  clear hsv
  have fz := H1.fz
  go_upto_region 4 with fail
  refine wp_region_l (l := 12) (S := (fun w' => w'.cell? ⟨D, 87 + x * 7 + 2, none⟩ = some (.int .u64 sv))) (by kernel_rfl) s0 (fun hHeld => ?_)
  refine AnyL.take2 (i := 0) (oi := { dst := some 56, op := Go.Op.move (Go.Operand.tmp 0), type := 26, pos := _, after := #[], guard := none }) (v := ?vv11) (by kernel_rfl) (by kernel_rfl) rfl (by kernel_rfl) (by kernel_rfl) (by kernel_rfl) (fun _ _ _ h => h) (Or.inl ⟨by rfl, ?hy11⟩) (by assumption) ?tk11
  case hy11 => (intro w hSw; (try dsimp only at hSw); go_simp; (try with_reducible rfl))
  try simp only [Act.put, List.setIfInBounds_toArray, List.set_cons_zero, List.set_cons_succ]
  refine AnyL.take2 (i := 1) (oi := { dst := some 57, op := Go.Op.move (Go.Operand.tmp 1), type := 34, pos := _, after := #[], guard := none }) (v := ?vv12) (by kernel_rfl) (by kernel_rfl) rfl (by kernel_rfl) (by kernel_rfl) (by kernel_rfl) (fun _ _ _ h => h) (Or.inl ⟨by rfl, ?hy12⟩) (by assumption) ?tk12
  case hy12 => (intro w hSw; (try dsimp only at hSw); go_simp; (try with_reducible rfl))
  try simp only [Act.put, List.setIfInBounds_toArray, List.set_cons_zero, List.set_cons_succ]
  refine AnyL.take2 (i := 2) (oi := { dst := some 58, op := Go.Op.nilCheck (Go.Operand.tmp 56), type := 0, pos := _, after := #[{ on := 0, ground := Go.Ground.data }], guard := none }) (v := ?vv13) (by kernel_rfl) (by kernel_rfl) rfl (by kernel_rfl) (by kernel_rfl) (by kernel_rfl) (fun _ _ _ h => h) (Or.inl ⟨by rfl, ?hy13⟩) (by assumption) ?tk13
  case hy13 => (intro w hSw; (try dsimp only at hSw); go_simp; (try with_reducible rfl))
  try simp only [Act.put, List.setIfInBounds_toArray, List.set_cons_zero, List.set_cons_succ]
  refine AnyL.take2 (i := 3) (oi := { dst := some 59, op := Go.Op.fieldAddr 135 (Go.Operand.tmp 58) 7, type := 0, pos := _, after := #[{ on := 2, ground := Go.Ground.data }], guard := none }) (v := ?vv14) (by kernel_rfl) (by kernel_rfl) rfl (by kernel_rfl) (by kernel_rfl) (by kernel_rfl) (fun _ _ _ h => h) (Or.inl ⟨by rfl, ?hy14⟩) (by assumption) ?tk14
  case hy14 => (intro w hSw; (try dsimp only at hSw); go_simp; (try with_reducible rfl))
  try simp only [Act.put, List.setIfInBounds_toArray, List.set_cons_zero, List.set_cons_succ]
  refine AnyL.take2 (i := 4) (oi := { dst := some 60, op := Go.Op.indexAddr 133 (Go.Operand.tmp 59) (Go.Operand.tmp 57), type := 0, pos := _, after := #[{ on := 3, ground := Go.Ground.data }, { on := 1, ground := Go.Ground.data }], guard := none }) (v := ?vv15) (by kernel_rfl) (by kernel_rfl) rfl (by kernel_rfl) (by kernel_rfl) (by kernel_rfl) (fun _ _ _ h => h) (Or.inl ⟨by rfl, ?hy15⟩) (by assumption) ?tk15
  case hy15 => (intro w hSw; (try dsimp only at hSw); go_simp; (try with_reducible rfl))
  try simp only [Act.put, List.setIfInBounds_toArray, List.set_cons_zero, List.set_cons_succ]
  refine AnyL.take2 (i := 5) (oi := { dst := some 61, op := Go.Op.fieldAddr 52 (Go.Operand.tmp 60) 2, type := 0, pos := _, after := #[{ on := 4, ground := Go.Ground.data }], guard := none }) (v := ?vv16) (by kernel_rfl) (by kernel_rfl) rfl (by kernel_rfl) (by kernel_rfl) (by kernel_rfl) (fun _ _ _ h => h) (Or.inl ⟨by rfl, ?hy16⟩) (by assumption) ?tk16
  case hy16 => (intro w hSw; (try dsimp only at hSw); go_simp; (try with_reducible rfl))
  try simp only [Act.put, List.setIfInBounds_toArray, List.set_cons_zero, List.set_cons_succ]
  refine AnyL.take2 (i := 6) (oi := { dst := some 62, op := Go.Op.load 28 (Go.Operand.tmp 61), type := 28, pos := _, after := #[{ on := 5, ground := Go.Ground.data }], guard := none }) (v := ?vv17) (by kernel_rfl) (by kernel_rfl) rfl (by kernel_rfl) (by kernel_rfl) (by kernel_rfl) (fun _ _ _ h => h) (Or.inl ⟨by rfl, ?hy17⟩) (by assumption) ?tk17
  case hy17 => (intro w hSw; (try dsimp only at hSw); go_simp; (try with_reducible rfl))
  try simp only [Act.put, List.setIfInBounds_toArray, List.set_cons_zero, List.set_cons_succ]
  refine AnyL.take2 (i := 7) (oi := { dst := some 63, op := Go.Op.binOp Go.BinOp.add 28 (Go.Operand.tmp 62) (Go.Operand.const (Go.Value.int Go.IntKind.u64 1)) 28, type := 28, pos := _, after := #[{ on := 6, ground := Go.Ground.data }], guard := none }) (v := ?vv18) (by kernel_rfl) (by kernel_rfl) rfl (by kernel_rfl) (by kernel_rfl) (by kernel_rfl) (fun _ _ _ h => h) (Or.inl ⟨by rfl, ?hy18⟩) (by assumption) ?tk18
  case hy18 => (intro w hSw; (try dsimp only at hSw); go_simp; (try with_reducible rfl))
  try simp only [Act.put, List.setIfInBounds_toArray, List.set_cons_zero, List.set_cons_succ]
  refine AnyL.take2 (i := 8) (oi := { dst := some 64, op := Go.Op.nilCheck (Go.Operand.tmp 56), type := 0, pos := _, after := #[{ on := 0, ground := Go.Ground.data }], guard := none }) (v := ?vv19) (by kernel_rfl) (by kernel_rfl) rfl (by kernel_rfl) (by kernel_rfl) (by kernel_rfl) (fun _ _ _ h => h) (Or.inl ⟨by rfl, ?hy19⟩) (by assumption) ?tk19
  case hy19 => (intro w hSw; (try dsimp only at hSw); go_simp; (try with_reducible rfl))
  try simp only [Act.put, List.setIfInBounds_toArray, List.set_cons_zero, List.set_cons_succ]
  refine AnyL.take2 (i := 9) (oi := { dst := some 65, op := Go.Op.fieldAddr 135 (Go.Operand.tmp 64) 7, type := 0, pos := _, after := #[{ on := 8, ground := Go.Ground.data }], guard := none }) (v := ?vv20) (by kernel_rfl) (by kernel_rfl) rfl (by kernel_rfl) (by kernel_rfl) (by kernel_rfl) (fun _ _ _ h => h) (Or.inl ⟨by rfl, ?hy20⟩) (by assumption) ?tk20
  case hy20 => (intro w hSw; (try dsimp only at hSw); go_simp; (try with_reducible rfl))
  try simp only [Act.put, List.setIfInBounds_toArray, List.set_cons_zero, List.set_cons_succ]
  refine AnyL.take2 (i := 10) (oi := { dst := some 66, op := Go.Op.indexAddr 133 (Go.Operand.tmp 65) (Go.Operand.tmp 57), type := 0, pos := _, after := #[{ on := 9, ground := Go.Ground.data }, { on := 1, ground := Go.Ground.data }, { on := 0, ground := Go.Ground.phase }, { on := 1, ground := Go.Ground.phase }, { on := 2, ground := Go.Ground.phase }, { on := 3, ground := Go.Ground.phase }, { on := 4, ground := Go.Ground.phase }, { on := 5, ground := Go.Ground.phase }, { on := 6, ground := Go.Ground.phase }, { on := 7, ground := Go.Ground.phase }], guard := none }) (v := ?vv21) (by kernel_rfl) (by kernel_rfl) rfl (by kernel_rfl) (by kernel_rfl) (by kernel_rfl) (fun _ _ _ h => h) (Or.inl ⟨by rfl, ?hy21⟩) (by assumption) ?tk21
  case hy21 => (intro w hSw; (try dsimp only at hSw); go_simp; (try with_reducible rfl))
  try simp only [Act.put, List.setIfInBounds_toArray, List.set_cons_zero, List.set_cons_succ]
  refine AnyL.take2 (i := 11) (oi := { dst := some 67, op := Go.Op.fieldAddr 52 (Go.Operand.tmp 66) 2, type := 0, pos := _, after := #[{ on := 10, ground := Go.Ground.data }, { on := 0, ground := Go.Ground.phase }, { on := 1, ground := Go.Ground.phase }, { on := 2, ground := Go.Ground.phase }, { on := 3, ground := Go.Ground.phase }, { on := 4, ground := Go.Ground.phase }, { on := 5, ground := Go.Ground.phase }, { on := 6, ground := Go.Ground.phase }, { on := 7, ground := Go.Ground.phase }], guard := none }) (v := ?vv22) (by kernel_rfl) (by kernel_rfl) rfl (by kernel_rfl) (by kernel_rfl) (by kernel_rfl) (fun _ _ _ h => h) (Or.inl ⟨by rfl, ?hy22⟩) (by assumption) ?tk22
  case hy22 => (intro w hSw; (try dsimp only at hSw); go_simp; (try with_reducible rfl))
  try simp only [Act.put, List.setIfInBounds_toArray, List.set_cons_zero, List.set_cons_succ]
  refine AnyL.last (o := { dst := none, op := Go.Op.store 28 (Go.Operand.tmp 67) (Go.Operand.tmp 63), type := 0, pos := _, after := #[{ on := 11, ground := Go.Ground.data }, { on := 7, ground := Go.Ground.data }, { on := 0, ground := Go.Ground.phase }, { on := 1, ground := Go.Ground.phase }, { on := 2, ground := Go.Ground.phase }, { on := 3, ground := Go.Ground.phase }, { on := 4, ground := Go.Ground.phase }, { on := 5, ground := Go.Ground.phase }, { on := 6, ground := Go.Ground.phase }, { on := 7, ground := Go.Ground.phase }], guard := none }) (by kernel_rfl) rfl (by kernel_rfl) (fun K' hK' => ?_)
  go_simp
  clear hHeld
  refine hK'.out _ _ ?_
  clear hK' K'
  try simp only [Act.put, List.setIfInBounds_toArray, List.set_cons_zero, List.set_cons_succ]
  go_end0
  obtain ⟨H8, F8⟩ := H1.drew.putStat (j := x * 7 + 2) (by omega) (inc64 sv)
  rw [← Nat.add_assoc] at H8 F8
  refine ⟨V2, rfl, ?_, ((Mw.below (below_dr (Below.refl _ _))).then F8).fr⟩
  rw [HPO.out]
  unfold Mdl.inc
  rw [← HSV.out]
  exact H8
end Go.Proofs.Qxb6500877aGreatDoor
