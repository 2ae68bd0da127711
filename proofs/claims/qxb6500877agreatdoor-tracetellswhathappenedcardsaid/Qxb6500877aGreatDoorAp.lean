import Derived.Deep.CutBlock
import Derived.OwnWalk
import Derived.Maps.AppendAt
import Derived.Test.Qxb6500877aGreatDoorAo
set_option linter.unusedVariables false
set_option linter.unusedSimpArgs false
namespace Go.Proofs.Qxb6500877aGreatDoor
open Go.RowKit

theorem tmCells_take : ∀ (l : List TmR) (j : Nat), (tmCells l).take (j * 4) = tmCells (l.take j)
  | [], j => by simp [tmCells]
  | x :: l, 0 => by simp [tmCells]
  | x :: l, j + 1 => by
    rw [List.take_succ_cons, tmCells_cons, tmCells_cons, ← tmCells_take l j, show (j + 1) * 4 = j * 4 + 4 by omega]
    rfl
theorem tmCells_drop : ∀ (l : List TmR) (j : Nat), (tmCells l).drop (j * 4) = tmCells (l.drop j)
  | [], j => by simp [tmCells]
  | x :: l, 0 => by simp [tmCells]
  | x :: l, j + 1 => by
    rw [List.drop_succ_cons, tmCells_cons, ← tmCells_drop l j, show (j + 1) * 4 = j * 4 + 4 by omega]
    rfl
theorem tmCells_erase (l : List TmR) (j : Nat) : (tmCells l).take (j * 4) ++ (tmCells l).drop ((j + 1) * 4) = tmCells (l.eraseIdx j) := by
  rw [tmCells_take, tmCells_drop, List.eraseIdx_eq_take_drop_succ]
  simp [tmCells]
def CancelM (m : Mdl) (x : Int) (z co tm : Int) (m' : Mdl) : Prop :=
  ((∀ t ∈ m.tm, t.id ≠ x) ∧ z = 10 ∧ co = -1 ∧ tm = 0 ∧ m' = m) ∨ ∃ (j : Nat) (t : TmR), m.tm[j]? = some t ∧ t.id = x ∧ (∀ s ∈ m.tm.take j, s.id ≠ x) ∧ z = 0 ∧ co = t.core ∧ tm = x ∧ m' = (m.inc (t.core.toNat * 7 + 5)).setTm (m.tm.eraseIdx j)
set_option maxRecDepth 20000 in
set_option maxHeartbeats 8000000 in
theorem mcancel_any {w : World} {D base : Nat} {V : Nat → Value} {m : Mdl} {x : Int} (H : MdlAt w D base V m) (hbw : base ≤ w.heap.size) (hl : m.tm.length ≤ 900) (hco : ∀ t ∈ m.tm, 0 ≤ t.core ∧ t.core < 4) :
    Calls Tryz.prog 82 #[.pointer (some ⟨D, 0, none⟩), .int .u64 x] w fun e w' => ∃ V' z co tm m', e = .returned (.agg (resCs z co (-1) tm false msg0 none 0 0)) ∧ CancelM m x z co tm m' ∧ MdlAt w' D base V' m' ∧ MFr D V V' w w' := by
  have hDl := H.dlt
  have n4D : w.heap.size ≠ D := by omega
  have hF : MdlAt (World.alloc w (.cells #[.int .i64 0, .int .i64 0, .int .i64 0, .int .u64 0, .bool false, .int .i64 0, .int .i64 0, .int .u32 0, .int .u64 0, .int .u64 0, .int .u64 0, .int .u64 0, .int .u64 0, .int .u64 0, .slice none 0 0] 43)) D base V m ∧ RowR (World.alloc w (.cells #[.int .i64 0, .int .i64 0, .int .i64 0, .int .u64 0, .bool false, .int .i64 0, .int .i64 0, .int .u32 0, .int .u64 0, .int .u64 0, .int .u64 0, .int .u64 0, .int .u64 0, .int .u64 0, .slice none 0 0] 43)) w.heap.size #[.int .i64 0, .int .i64 0, .int .i64 0, .int .u64 0, .bool false, .int .i64 0, .int .i64 0, .int .u32 0, .int .u64 0, .int .u64 0, .int .u64 0, .int .u64 0, .int .u64 0, .int .u64 0, .slice none 0 0] ∧ MW D V V w (World.alloc w (.cells #[.int .i64 0, .int .i64 0, .int .i64 0, .int .u64 0, .bool false, .int .i64 0, .int .i64 0, .int .u32 0, .int .u64 0, .int .u64 0, .int .u64 0, .int .u64 0, .int .u64 0, .int .u64 0, .slice none 0 0] 43)) ∧ Off V w.heap.size ∧ base ≤ (World.alloc w (.cells #[.int .i64 0, .int .i64 0, .int .i64 0, .int .u64 0, .bool false, .int .i64 0, .int .i64 0, .int .u32 0, .int .u64 0, .int .u64 0, .int .u64 0, .int .u64 0, .int .u64 0, .int .u64 0, .slice none 0 0] 43)).heap.size := by
    have bb := one_alloc w (.cells #[.int .i64 0, .int .i64 0, .int .i64 0, .int .u64 0, .bool false, .int .i64 0, .int .i64 0, .int .u32 0, .int .u64 0, .int .u64 0, .int .u64 0, .int .u64 0, .int .u64 0, .int .u64 0, .slice none 0 0] 43)
    exact ⟨H.below bb, RowR.new _ _, ((MFr.refl D V w).below bb).mw, H.off (Nat.le_refl _), Nat.le_trans hbw bb.size⟩
  go_enter Tryz.func82, Tryz.ntmps82
  go_upto_region 1 with fail
  generalize hW0 : World.alloc w (.cells #[.int .i64 0, .int .i64 0, .int .i64 0, .int .u64 0, .bool false, .int .i64 0, .int .i64 0, .int .u32 0, .int .u64 0, .int .u64 0, .int .u64 0, .int .u64 0, .int .u64 0, .int .u64 0, .slice none 0 0] 43) = wc at *
  clear hW0
  obtain ⟨H1, R4, Mw, o4, hbs⟩ := hF
  have hfi := findTimer_any H1 (by omega) x
  go_wp2_with fail
  refine hfi.mono ?_
  rintro e w2 ⟨v, rfl, hv, hb2⟩
  have hF : MdlAt w2 D base V m ∧ RowR w2 w.heap.size #[.int .i64 0, .int .i64 0, .int .i64 0, .int .u64 0, .bool false, .int .i64 0, .int .i64 0, .int .u32 0, .int .u64 0, .int .u64 0, .int .u64 0, .int .u64 0, .int .u64 0, .int .u64 0, .slice none 0 0] ∧ MW D V V w w2 ∧ Off V w.heap.size ∧ base ≤ w2.heap.size := ⟨H1.below hb2, R4.blk (hb2.block _ R4.lt), Mw.below hb2, o4, Nat.le_trans hbs hb2.size⟩
  clear H1 R4 Mw o4 hbs hfi hb2 wc
  rename World => wc
  obtain ⟨H1, R4, Mw, o4, hbs⟩ := hF
  rcases hv with ⟨j, t, hj, hid, rfl, htk⟩ | ⟨rfl, hno⟩
  · have j0 : (0 : Int) ≤ j := by omega
    have jl : j < m.tm.length := (List.getElem?_eq_some_iff.1 hj).1
    have j1 : (j : Int) < (m.tm.length : Int) := by omega
    obtain ⟨z0, z1⟩ := hco t (List.mem_of_getElem? hj)
    obtain ⟨c, hc⟩ : ∃ c : Nat, t.core = c := ⟨t.core.toNat, by omega⟩
    have hc4 : c < 4 := by omega
    have d0 : (0 : Int) ≤ c := by omega
    have d1 : (c : Int) < 4 := by omega
    have HC := hideIt hc
    have HJ := hideIt hj
    have HI := hideIt (And.intro hid htk)
    clear hj hid htk jl hc z0 z1
    obtain ⟨n, hn⟩ : ∃ n, n = m.tm.length := ⟨_, rfl⟩
    rw [← hn] at j1 hl
    have HN := hideIt hn
    clear hn
    have hjn : j < n := by omega
    have hl4 := R4.lt
    go_upto_region 4 with fail
    go_cut [6] (fun a6 wd => ∃ b6 : Nat, a6 = .pointer (some ⟨b6, 0, none⟩) ∧ MdlAt wd D base V m ∧ RowR wd w.heap.size #[.int .i64 0, .int .i64 0, .int .i64 0, .int .u64 0, .bool false, .int .i64 0, .int .i64 0, .int .u32 0, .int .u64 0, .int .u64 0, .int .u64 0, .int .u64 0, .int .u64 0, .int .u64 0, .slice none 0 0] ∧ MW D V V w wd ∧ Off V w.heap.size ∧ base ≤ wd.heap.size ∧ RowR wd b6 (resCs 0 (-1) (-1) 0 false msg0 none 0 0) ∧ Off V b6 ∧ w.heap.size < b6)
    case first =>
      have HQ := hideIt (And.intro H1 (And.intro R4 (And.intro Mw (And.intro o4 hbs))))
      clear H1 R4 Mw o4 hbs
      go_wp2_with fail
      refine (answer_any 0 wc).mono ?_
      rintro e w6 ⟨rfl, hb6⟩
      have hs6 := hb6.size
      have HB6 := hideIt hb6
      clear hb6
      unfold resV
      go_wp2
      go_meet
      case rel =>
        obtain ⟨H5, R5, M5, o5, hbs⟩ := HQ.out
        have b1 := one_alloc w6 (.cells (resCs 0 (-1) (-1) 0 false msg0 none 0 0) 43)
        have bb := HB6.out.trans (b1.mono hs6)
        exact ⟨w6.heap.size, rfl, H5.below bb, R5.blk (bb.block _ hl4), M5.below bb, o5, Nat.le_trans hbs bb.size, RowR.new w6 _, H5.off (by omega), by omega⟩
    case rest =>
    clear H1 R4 Mw o4 hbs hl4
    obtain ⟨b6, rfl, H1, R4, Mw, o4, hbs, R7, o7, h47⟩ := hcut
    have n7D : b6 ≠ D := by omega
    obtain ⟨s0, hown⟩ := H1.trow
    obtain ⟨pv, cap, ev⟩ := own_shape hown
    rw [ev] at s0 hown
    rw [← HN.out] at s0 hown ev
    have hr4 := row_four hown HJ.out
    obtain ⟨g, hp, _, c1o, _, _⟩ := hr4
    subst hp
    have n4g : w.heap.size ≠ g := fun e => o4 20 (by omega) (by rw [ev, e]; rfl)
    have ngD : g ≠ D := fun e => by have := (hown.lt g rfl).1; have := H1.lt; omega
    have c1 : wc.cell? ⟨g, j * 4 + 1, none⟩ = some (.int .i64 (c : Int)) := by rw [← HC.out]; exact c1o
    clear c1o hown
    have q1 := R7.cell (j := 1) rfl
    have q3 := R7.cell (j := 3) rfl
    have fz7 := R7.fz
    go_upto_region 5 with fail
    go_cut [] (fun wd => MdlAt wd D base V m ∧ RowR wd w.heap.size #[.int .i64 0, .int .i64 0, .int .i64 0, .int .u64 0, .bool false, .int .i64 0, .int .i64 0, .int .u32 0, .int .u64 0, .int .u64 0, .int .u64 0, .int .u64 0, .int .u64 0, .int .u64 0, .slice none 0 0] ∧ MW D V V w wd ∧ Off V w.heap.size ∧ base ≤ wd.heap.size ∧ RowR wd b6 (resCs 0 (c : Int) (-1) x false msg0 none 0 0))
    case first =>
      go_wp2
      go_meet
      case rel =>
        exact ⟨(H1.other n7D o7).other n7D o7, R4.blk ((far_set (show w.heap.size ≠ b6 by omega)).trans (far_set (show w.heap.size ≠ b6 by omega))), (Mw.set (by omega)).set (by omega), o4, by simpa using hbs, R7.set.set⟩
    case rest =>
    clear H1 R4 Mw o4 hbs R7 q1 q3 fz7 s0 c1
    obtain ⟨H1, R4, Mw, o4, hbs, R7⟩ := hcut
    have s0 := H1.trow.1
    have hown := H1.trow.2
    rw [← HN.out, ev] at hown
    rw [ev] at s0
    have hr4 := row_four hown HJ.out
    obtain ⟨g2, hp, _, c1o, _, _⟩ := hr4
    have hgg : g = g2 := by simp at hp; exact hp
    subst hgg
    have c1 : wc.cell? ⟨g, j * 4 + 1, none⟩ = some (.int .i64 (c : Int)) := by rw [← HC.out]; exact c1o
    clear c1o hown hp
    have k0 := H1.stc (j := c * 7 + 5) (by omega)
    rw [← Nat.add_assoc] at k0
    obtain ⟨sv, hsv⟩ : ∃ sv, sv = m.st (c * 7 + 5) := ⟨_, rfl⟩
    rw [← hsv] at k0
    have HSV := hideIt hsv
    clear hsv
    have fz := H1.fz
    have n6D := n7D
    go_upto_region 6 with fail
    go_cut [] (fun wd => MdlAt wd D base V (m.setSt (c * 7 + 5) (inc64 sv)) ∧ RowR wd w.heap.size #[.int .i64 0, .int .i64 0, .int .i64 0, .int .u64 0, .bool false, .int .i64 0, .int .i64 0, .int .u32 0, .int .u64 0, .int .u64 0, .int .u64 0, .int .u64 0, .int .u64 0, .int .u64 0, .slice none 0 0] ∧ MW D V V w wd ∧ Off V w.heap.size ∧ base ≤ wd.heap.size ∧ RowR wd b6 (resCs 0 (c : Int) (-1) x false msg0 none 0 0))
    case first =>
      refine wp_region_l (l := 19) (S := (fun w' => w'.cell? ⟨D, 85, none⟩ = some (.slice (some ⟨g, 0, none⟩) n cap) ∧ w'.cell? ⟨g, j * 4 + 1, none⟩ = some (.int .i64 (c : Int)) ∧ w'.cell? ⟨D, 87 + c * 7 + 5, none⟩ = some (.int .u64 sv))) (by kernel_rfl) ⟨s0, c1, k0⟩ (fun hHeld => ?_)
      refine AnyL.take2 (i := 0) (oi := { dst := some 25, op := Go.Op.move (Go.Operand.tmp 0), type := 26, pos := _, after := #[], guard := none }) (v := ?vv1) (by kernel_rfl) (by kernel_rfl) rfl (by kernel_rfl) (by kernel_rfl) (by kernel_rfl) (fun _ _ _ h => h) (Or.inl ⟨by rfl, ?hy1⟩) (by assumption) ?tk1
      case hy1 => (intro w hSw; (try dsimp only at hSw); go_simp; (try with_reducible rfl))
      try simp only [Act.put, List.setIfInBounds_toArray, List.set_cons_zero, List.set_cons_succ]
      refine AnyL.take2 (i := 1) (oi := { dst := some 26, op := Go.Op.move (Go.Operand.tmp 0), type := 26, pos := _, after := #[], guard := none }) (v := ?vv2) (by kernel_rfl) (by kernel_rfl) rfl (by kernel_rfl) (by kernel_rfl) (by kernel_rfl) (fun _ _ _ h => h) (Or.inl ⟨by rfl, ?hy2⟩) (by assumption) ?tk2
      case hy2 => (intro w hSw; (try dsimp only at hSw); go_simp; (try with_reducible rfl))
      try simp only [Act.put, List.setIfInBounds_toArray, List.set_cons_zero, List.set_cons_succ]
      refine AnyL.take2 (i := 2) (oi := { dst := some 27, op := Go.Op.nilCheck (Go.Operand.tmp 26), type := 0, pos := _, after := #[{ on := 1, ground := Go.Ground.data }], guard := none }) (v := ?vv3) (by kernel_rfl) (by kernel_rfl) rfl (by kernel_rfl) (by kernel_rfl) (by kernel_rfl) (fun _ _ _ h => h) (Or.inl ⟨by rfl, ?hy3⟩) (by assumption) ?tk3
      case hy3 => (intro w hSw; (try dsimp only at hSw); go_simp; (try with_reducible rfl))
      try simp only [Act.put, List.setIfInBounds_toArray, List.set_cons_zero, List.set_cons_succ]
      refine AnyL.take2 (i := 3) (oi := { dst := some 28, op := Go.Op.fieldAddr 135 (Go.Operand.tmp 27) 5, type := 0, pos := _, after := #[{ on := 2, ground := Go.Ground.data }], guard := none }) (v := ?vv4) (by kernel_rfl) (by kernel_rfl) rfl (by kernel_rfl) (by kernel_rfl) (by kernel_rfl) (fun _ _ _ h => h) (Or.inl ⟨by rfl, ?hy4⟩) (by assumption) ?tk4
      case hy4 => (intro w hSw; (try dsimp only at hSw); go_simp; (try with_reducible rfl))
      try simp only [Act.put, List.setIfInBounds_toArray, List.set_cons_zero, List.set_cons_succ]
      refine AnyL.take2 (i := 4) (oi := { dst := some 29, op := Go.Op.load 59 (Go.Operand.tmp 28), type := 59, pos := _, after := #[{ on := 3, ground := Go.Ground.data }], guard := none }) (v := ?vv5) (by kernel_rfl) (by kernel_rfl) rfl (by kernel_rfl) (by kernel_rfl) (by kernel_rfl) (fun _ _ _ h => h) (Or.inl ⟨by rfl, ?hy5⟩) (by assumption) ?tk5
      case hy5 => (intro w hSw; (try dsimp only at hSw); go_simp; (try with_reducible rfl))
      try simp only [Act.put, List.setIfInBounds_toArray, List.set_cons_zero, List.set_cons_succ]
      refine AnyL.take2 (i := 5) (oi := { dst := some 30, op := Go.Op.move (Go.Operand.tmp 5), type := 3, pos := _, after := #[], guard := none }) (v := ?vv6) (by kernel_rfl) (by kernel_rfl) rfl (by kernel_rfl) (by kernel_rfl) (by kernel_rfl) (fun _ _ _ h => h) (Or.inl ⟨by rfl, ?hy6⟩) (by assumption) ?tk6
      case hy6 => (intro w hSw; (try dsimp only at hSw); go_simp; (try with_reducible rfl))
      try simp only [Act.put, List.setIfInBounds_toArray, List.set_cons_zero, List.set_cons_succ]
      refine AnyL.take2 (i := 6) (oi := { dst := some 31, op := Go.Op.indexAddr 59 (Go.Operand.tmp 29) (Go.Operand.tmp 30), type := 0, pos := _, after := #[{ on := 4, ground := Go.Ground.data }, { on := 5, ground := Go.Ground.data }], guard := none }) (v := ?vv7) (by kernel_rfl) (by kernel_rfl) rfl (by kernel_rfl) (by kernel_rfl) (by kernel_rfl) (fun _ _ _ h => h) (Or.inl ⟨by rfl, ?hy7⟩) (by assumption) ?tk7
      case hy7 => (intro w hSw; (try dsimp only at hSw); go_simp; (try with_reducible rfl))
      try simp only [Act.put, List.setIfInBounds_toArray, List.set_cons_zero, List.set_cons_succ]
      refine AnyL.take2 (i := 7) (oi := { dst := some 32, op := Go.Op.fieldAddr 84 (Go.Operand.tmp 31) 1, type := 0, pos := _, after := #[{ on := 6, ground := Go.Ground.data }], guard := none }) (v := ?vv8) (by kernel_rfl) (by kernel_rfl) rfl (by kernel_rfl) (by kernel_rfl) (by kernel_rfl) (fun _ _ _ h => h) (Or.inl ⟨by rfl, ?hy8⟩) (by assumption) ?tk8
      case hy8 => (intro w hSw; (try dsimp only at hSw); go_simp; (try with_reducible rfl))
      try simp only [Act.put, List.setIfInBounds_toArray, List.set_cons_zero, List.set_cons_succ]
      refine AnyL.take2 (i := 8) (oi := { dst := some 33, op := Go.Op.load 34 (Go.Operand.tmp 32), type := 34, pos := _, after := #[{ on := 7, ground := Go.Ground.data }], guard := none }) (v := ?vv9) (by kernel_rfl) (by kernel_rfl) rfl (by kernel_rfl) (by kernel_rfl) (by kernel_rfl) (fun _ _ _ h => h) (Or.inl ⟨by rfl, ?hy9⟩) (by assumption) ?tk9
      case hy9 => (intro w hSw; (try dsimp only at hSw); go_simp; (try with_reducible rfl))
      try simp only [Act.put, List.setIfInBounds_toArray, List.set_cons_zero, List.set_cons_succ]
      refine AnyL.take2 (i := 9) (oi := { dst := some 34, op := Go.Op.nilCheck (Go.Operand.tmp 25), type := 0, pos := _, after := #[{ on := 0, ground := Go.Ground.data }], guard := none }) (v := ?vv10) (by kernel_rfl) (by kernel_rfl) rfl (by kernel_rfl) (by kernel_rfl) (by kernel_rfl) (fun _ _ _ h => h) (Or.inl ⟨by rfl, ?hy10⟩) (by assumption) ?tk10
      case hy10 => (intro w hSw; (try dsimp only at hSw); go_simp; (try with_reducible rfl))
      try simp only [Act.put, List.setIfInBounds_toArray, List.set_cons_zero, List.set_cons_succ]
      refine AnyL.take2 (i := 10) (oi := { dst := some 35, op := Go.Op.fieldAddr 135 (Go.Operand.tmp 34) 7, type := 0, pos := _, after := #[{ on := 9, ground := Go.Ground.data }], guard := none }) (v := ?vv11) (by kernel_rfl) (by kernel_rfl) rfl (by kernel_rfl) (by kernel_rfl) (by kernel_rfl) (fun _ _ _ h => h) (Or.inl ⟨by rfl, ?hy11⟩) (by assumption) ?tk11
      case hy11 => (intro w hSw; (try dsimp only at hSw); go_simp; (try with_reducible rfl))
      try simp only [Act.put, List.setIfInBounds_toArray, List.set_cons_zero, List.set_cons_succ]
      refine AnyL.take2 (i := 11) (oi := { dst := some 36, op := Go.Op.indexAddr 133 (Go.Operand.tmp 35) (Go.Operand.tmp 33), type := 0, pos := _, after := #[{ on := 10, ground := Go.Ground.data }, { on := 8, ground := Go.Ground.data }], guard := none }) (v := ?vv12) (by kernel_rfl) (by kernel_rfl) rfl (by kernel_rfl) (by kernel_rfl) (by kernel_rfl) (fun _ _ _ h => h) (Or.inl ⟨by rfl, ?hy12⟩) (by assumption) ?tk12
      case hy12 => (intro w hSw; (try dsimp only at hSw); go_simp; (try with_reducible rfl))
      try simp only [Act.put, List.setIfInBounds_toArray, List.set_cons_zero, List.set_cons_succ]
      refine AnyL.take2 (i := 12) (oi := { dst := some 37, op := Go.Op.fieldAddr 52 (Go.Operand.tmp 36) 5, type := 0, pos := _, after := #[{ on := 11, ground := Go.Ground.data }], guard := none }) (v := ?vv13) (by kernel_rfl) (by kernel_rfl) rfl (by kernel_rfl) (by kernel_rfl) (by kernel_rfl) (fun _ _ _ h => h) (Or.inl ⟨by rfl, ?hy13⟩) (by assumption) ?tk13
      case hy13 => (intro w hSw; (try dsimp only at hSw); go_simp; (try with_reducible rfl))
      try simp only [Act.put, List.setIfInBounds_toArray, List.set_cons_zero, List.set_cons_succ]
      refine AnyL.take2 (i := 13) (oi := { dst := some 38, op := Go.Op.load 28 (Go.Operand.tmp 37), type := 28, pos := _, after := #[{ on := 12, ground := Go.Ground.data }], guard := none }) (v := ?vv14) (by kernel_rfl) (by kernel_rfl) rfl (by kernel_rfl) (by kernel_rfl) (by kernel_rfl) (fun _ _ _ h => h) (Or.inl ⟨by rfl, ?hy14⟩) (by assumption) ?tk14
      case hy14 => (intro w hSw; (try dsimp only at hSw); go_simp; (try with_reducible rfl))
      try simp only [Act.put, List.setIfInBounds_toArray, List.set_cons_zero, List.set_cons_succ]
      refine AnyL.take2 (i := 14) (oi := { dst := some 39, op := Go.Op.binOp Go.BinOp.add 28 (Go.Operand.tmp 38) (Go.Operand.const (Go.Value.int Go.IntKind.u64 1)) 28, type := 28, pos := _, after := #[{ on := 13, ground := Go.Ground.data }], guard := none }) (v := ?vv15) (by kernel_rfl) (by kernel_rfl) rfl (by kernel_rfl) (by kernel_rfl) (by kernel_rfl) (fun _ _ _ h => h) (Or.inl ⟨by rfl, ?hy15⟩) (by assumption) ?tk15
      case hy15 => (intro w hSw; (try dsimp only at hSw); go_simp; (try with_reducible rfl))
      try simp only [Act.put, List.setIfInBounds_toArray, List.set_cons_zero, List.set_cons_succ]
      refine AnyL.take2 (i := 15) (oi := { dst := some 40, op := Go.Op.nilCheck (Go.Operand.tmp 25), type := 0, pos := _, after := #[{ on := 0, ground := Go.Ground.data }], guard := none }) (v := ?vv16) (by kernel_rfl) (by kernel_rfl) rfl (by kernel_rfl) (by kernel_rfl) (by kernel_rfl) (fun _ _ _ h => h) (Or.inl ⟨by rfl, ?hy16⟩) (by assumption) ?tk16
      case hy16 => (intro w hSw; (try dsimp only at hSw); go_simp; (try with_reducible rfl))
      try simp only [Act.put, List.setIfInBounds_toArray, List.set_cons_zero, List.set_cons_succ]
      refine AnyL.take2 (i := 16) (oi := { dst := some 41, op := Go.Op.fieldAddr 135 (Go.Operand.tmp 40) 7, type := 0, pos := _, after := #[{ on := 15, ground := Go.Ground.data }], guard := none }) (v := ?vv17) (by kernel_rfl) (by kernel_rfl) rfl (by kernel_rfl) (by kernel_rfl) (by kernel_rfl) (fun _ _ _ h => h) (Or.inl ⟨by rfl, ?hy17⟩) (by assumption) ?tk17
      case hy17 => (intro w hSw; (try dsimp only at hSw); go_simp; (try with_reducible rfl))
      try simp only [Act.put, List.setIfInBounds_toArray, List.set_cons_zero, List.set_cons_succ]
      refine AnyL.take2 (i := 17) (oi := { dst := some 42, op := Go.Op.indexAddr 133 (Go.Operand.tmp 41) (Go.Operand.tmp 33), type := 0, pos := _, after := #[{ on := 16, ground := Go.Ground.data }, { on := 8, ground := Go.Ground.data }, { on := 0, ground := Go.Ground.phase }, { on := 1, ground := Go.Ground.phase }, { on := 2, ground := Go.Ground.phase }, { on := 3, ground := Go.Ground.phase }, { on := 4, ground := Go.Ground.phase }, { on := 5, ground := Go.Ground.phase }, { on := 6, ground := Go.Ground.phase }, { on := 7, ground := Go.Ground.phase }, { on := 8, ground := Go.Ground.phase }, { on := 9, ground := Go.Ground.phase }, { on := 10, ground := Go.Ground.phase }, { on := 11, ground := Go.Ground.phase }, { on := 12, ground := Go.Ground.phase }, { on := 13, ground := Go.Ground.phase }, { on := 14, ground := Go.Ground.phase }], guard := none }) (v := ?vv18) (by kernel_rfl) (by kernel_rfl) rfl (by kernel_rfl) (by kernel_rfl) (by kernel_rfl) (fun _ _ _ h => h) (Or.inl ⟨by rfl, ?hy18⟩) (by assumption) ?tk18
      case hy18 => (intro w hSw; (try dsimp only at hSw); go_simp; (try with_reducible rfl))
      try simp only [Act.put, List.setIfInBounds_toArray, List.set_cons_zero, List.set_cons_succ]
      refine AnyL.take2 (i := 18) (oi := { dst := some 43, op := Go.Op.fieldAddr 52 (Go.Operand.tmp 42) 5, type := 0, pos := _, after := #[{ on := 17, ground := Go.Ground.data }, { on := 0, ground := Go.Ground.phase }, { on := 1, ground := Go.Ground.phase }, { on := 2, ground := Go.Ground.phase }, { on := 3, ground := Go.Ground.phase }, { on := 4, ground := Go.Ground.phase }, { on := 5, ground := Go.Ground.phase }, { on := 6, ground := Go.Ground.phase }, { on := 7, ground := Go.Ground.phase }, { on := 8, ground := Go.Ground.phase }, { on := 9, ground := Go.Ground.phase }, { on := 10, ground := Go.Ground.phase }, { on := 11, ground := Go.Ground.phase }, { on := 12, ground := Go.Ground.phase }, { on := 13, ground := Go.Ground.phase }, { on := 14, ground := Go.Ground.phase }], guard := none }) (v := ?vv19) (by kernel_rfl) (by kernel_rfl) rfl (by kernel_rfl) (by kernel_rfl) (by kernel_rfl) (fun _ _ _ h => h) (Or.inl ⟨by rfl, ?hy19⟩) (by assumption) ?tk19
      case hy19 => (intro w hSw; (try dsimp only at hSw); go_simp; (try with_reducible rfl))
      try simp only [Act.put, List.setIfInBounds_toArray, List.set_cons_zero, List.set_cons_succ]
      refine AnyL.last (o := { dst := none, op := Go.Op.store 28 (Go.Operand.tmp 43) (Go.Operand.tmp 39), type := 0, pos := _, after := #[{ on := 18, ground := Go.Ground.data }, { on := 14, ground := Go.Ground.data }, { on := 0, ground := Go.Ground.phase }, { on := 1, ground := Go.Ground.phase }, { on := 2, ground := Go.Ground.phase }, { on := 3, ground := Go.Ground.phase }, { on := 4, ground := Go.Ground.phase }, { on := 5, ground := Go.Ground.phase }, { on := 6, ground := Go.Ground.phase }, { on := 7, ground := Go.Ground.phase }, { on := 8, ground := Go.Ground.phase }, { on := 9, ground := Go.Ground.phase }, { on := 10, ground := Go.Ground.phase }, { on := 11, ground := Go.Ground.phase }, { on := 12, ground := Go.Ground.phase }, { on := 13, ground := Go.Ground.phase }, { on := 14, ground := Go.Ground.phase }], guard := none }) (by kernel_rfl) rfl (by kernel_rfl) (fun K' hK' => ?_)
      go_simp
      clear hHeld
      refine hK'.out _ _ ?_
      clear hK' K'
      try simp only [Act.put, List.setIfInBounds_toArray, List.set_cons_zero, List.set_cons_succ]
      go_wp2
      go_meet
      case rel =>
        obtain ⟨H8, F8⟩ := H1.drew.putStat (j := c * 7 + 5) (by omega) (inc64 sv)
        rw [← Nat.add_assoc] at H8 F8
        exact ⟨H8, R4.blk (far_set n4D), (Mw.below (below_dr (Below.refl _ _))).then F8, o4, Nat.le_trans hbs F8.size, R7.blk (far_set n7D)⟩
    case rest =>
    clear H1 R4 Mw o4 hbs R7 s0 c1 k0 fz
    obtain ⟨H1, R4, Mw, o4, hbs, R7⟩ := hcut
    obtain ⟨m1, hm1⟩ : ∃ m1, m1 = m.setSt (c * 7 + 5) (inc64 sv) := ⟨_, rfl⟩
    have s0 := H1.trow.1
    have hown : wc.ownsRow base 84 4 (V 20) m.tm.length (tmCells m.tm) := H1.trow.2
    rw [← HN.out, ev] at hown
    rw [ev] at s0
    rw [← hm1] at H1
    have HM1 := hideIt hm1
    clear hm1
    have fz := H1.fz
    have hDw := H1.dlt
    have hDr : some D ≠ some g := fun e => ngD (Option.some.inj e).symm
    have hdel := delete_tms (i := j) hown (tm_one _) hjn (by omega)
    have HNL : Hid (n - 1 = (m.tm.eraseIdx j).length) := hideIt (by rw [List.length_eraseIdx, if_pos (by rw [← HN.out]; exact hjn), HN.out])
    go_upto_region 7 with fail
    go_cut [] (fun wd => ∃ V2, MdlAt wd D base V2 (m1.setTm (m.tm.eraseIdx j)) ∧ RowR wd w.heap.size #[.int .i64 0, .int .i64 0, .int .i64 0, .int .u64 0, .bool false, .int .i64 0, .int .i64 0, .int .u32 0, .int .u64 0, .int .u64 0, .int .u64 0, .int .u64 0, .int .u64 0, .int .u64 0, .slice none 0 0] ∧ MW D V V2 w wd ∧ Off V2 w.heap.size ∧ base ≤ wd.heap.size ∧ RowR wd b6 (resCs 0 (c : Int) (-1) x false msg0 none 0 0))
    case first =>
      go_wp2_with fail
      refine hdel.mono ?_
      rintro e w3 ⟨rfl, hown', hgrow⟩
      have fz3 := fun o => (World.frozen?_of_block (a := ⟨D, o, none⟩) (hgrow.block D hDw hDr)).trans (fz o)
      have k0 := hgrow.cell (a := ⟨D, 85, none⟩) s0 hDr
      have HG := hideIt (And.intro hown' hgrow)
      clear hown' hgrow hdel
      go_wp2
      go_meet
      case rel =>
        obtain ⟨ho, hg⟩ := HG.out
        obtain ⟨H8, F8⟩ := H1.newTm (l := m.tm.eraseIdx j) (w3 := w3) (by rw [ev]; exact hg) (by rw [← tmCells_erase, ← HNL.out]; exact ho) (.inl (by rw [ev]; rfl))
        exact ⟨_, H8, R4.blk (F8.keep o4 R4.lt n4D), Mw.then F8, F8.off o4 R4.lt, Nat.le_trans hbs F8.size, R7.blk (F8.keep o7 R7.lt n7D)⟩
    case rest =>
    clear H1 R4 Mw o4 hbs R7 s0 hown fz hDw hDr hdel
    obtain ⟨V2, H1, R4, Mw, o4, hbs, R7⟩ := hcut
    have hl43 := R7.load rfl
    have hs43 := R4.store rfl (cs := (resCs 0 (c : Int) (-1) x false msg0 none 0 0)) rfl (resCs_one _ _ _ _ _ _ _ _ _)
    go_upto_region 8 with fail
    go_wp2_with (first | (refine wpList_load_row rfl (.tmp 6) 43 rfl ⟨b6, 0, none⟩ (.agg (resCs 0 (c : Int) (-1) x false msg0 none 0 0)) rfl hl43 ?_) | (refine wpList_store_row rfl (.tmp 4) (.tmp 55) 43 rfl ⟨w.heap.size, 0, none⟩ (.agg (resCs 0 (c : Int) (-1) x false msg0 none 0 0)) rfl rfl hs43 ?_) | go_in)
    refine bodyPost_ret (v := .agg (resCs 0 (c : Int) (-1) x false msg0 none 0 0)) (results_cell_row rfl _ _ w.heap.size 43 _ (0, 0) _ rfl R4.row Tryz.underlying43 rfl sz43) rfl ⟨V2, 0, c, x, m1.setTm (m.tm.eraseIdx j), rfl, .inr ⟨j, t, HJ.out, HI.out.1, HI.out.2, rfl, HC.out.symm, rfl, ?_⟩, H1.otherRow n4D o4, (Mw.row (by omega)).fr⟩
    rw [HM1.out, HSV.out, HC.out]
    rfl
  · have HN := hideIt hno
    clear hno
    have han := answer_r 10 wc
    go_wp2_with fail
    refine han.mono ?_
    rintro e w5 ⟨rfl, hb5⟩
    have R5 := R4.blk (hb5.block _ R4.lt)
    have hs43 := R5.store rfl (cs := (resCs 10 (-1) (-1) 0 false msg0 none 0 0)) rfl (resCs_one _ _ _ _ _ _ _ _ _)
    have HB5 := hideIt hb5
    clear han hb5
    go_wp2_with (first | (refine wpList_store_row rfl (.tmp 4) (.tmp 12) 43 rfl ⟨w.heap.size, 0, none⟩ (.agg (resCs 10 (-1) (-1) 0 false msg0 none 0 0)) rfl rfl hs43 ?_) | go_in)
    have H5 := (H1.below HB5.out).otherRow (b := w.heap.size) (cs := (resCs 10 (-1) (-1) 0 false msg0 none 0 0)) n4D o4
    have M5 := (Mw.below HB5.out).row (b := w.heap.size) (cs := (resCs 10 (-1) (-1) 0 false msg0 none 0 0)) (Nat.le_refl _)
    refine bodyPost_ret (v := .agg (resCs 10 (-1) (-1) 0 false msg0 none 0 0)) (results_cell_row rfl _ _ w.heap.size 43 _ (0, 0) _ rfl R5.row Tryz.underlying43 rfl sz43) rfl ⟨V, 10, -1, 0, m, rfl, .inl ⟨HN.out, rfl, rfl, rfl, rfl⟩, H5, M5.fr⟩
end Go.Proofs.Qxb6500877aGreatDoor
