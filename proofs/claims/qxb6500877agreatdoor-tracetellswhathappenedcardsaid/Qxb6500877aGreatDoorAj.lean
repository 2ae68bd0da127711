import Derived.Deep.CutBlock
import Derived.OwnWalk
import Derived.Test.Qxb6500877aGreatDoorAi
set_option linter.unusedVariables false
set_option linter.unusedSimpArgs false
namespace Go.Proofs.Qxb6500877aGreatDoor
open Go.RowKit

theorem resCs_msg (c co tk tm : Int) (hm : Bool) (p : Option Addr) (a n : Nat) (mm : MsgV) : ((((((((((resCs c co tk tm hm msg0 p a n).setIfInBounds 5 (.int .i64 mm.mf)).setIfInBounds 6 (.int .i64 mm.mt)).setIfInBounds 7 (.int .u32 mm.md)).setIfInBounds 8 (.int .u64 mm.mq)).setIfInBounds 9 (.int .u64 mm.ma)).setIfInBounds 10 (.int .u64 mm.x0)).setIfInBounds 11 (.int .u64 mm.x1)).setIfInBounds 12 (.int .u64 mm.x2)).setIfInBounds 13 (.int .u64 mm.x3)) = resCs c co tk tm hm mm p a n := by
  simp [resCs]
theorem nineO_blk {w w' : World} {g q : Nat} {m : MsgV} (h : NineO w g q m) (e : w'.heap[g]? = w.heap[g]?) : NineO w' g q m :=
  ⟨(World.cell?_of_block (a := ⟨g, q, none⟩) e).trans h.c0, (World.cell?_of_block (a := ⟨g, q + 1, none⟩) e).trans h.c1, (World.cell?_of_block (a := ⟨g, q + 2, none⟩) e).trans h.c2, (World.cell?_of_block (a := ⟨g, q + 3, none⟩) e).trans h.c3, (World.cell?_of_block (a := ⟨g, q + 4, none⟩) e).trans h.c4, (World.cell?_of_block (a := ⟨g, q + 5, none⟩) e).trans h.c5, (World.cell?_of_block (a := ⟨g, q + 6, none⟩) e).trans h.c6, (World.cell?_of_block (a := ⟨g, q + 7, none⟩) e).trans h.c7, (World.cell?_of_block (a := ⟨g, q + 8, none⟩) e).trans h.c8⟩
def Mdl.deliver (m : Mdl) (b : Nat) : Mdl := (m.setBx b (m.bx b).tail).inc (b % 4 * 7 + 3)
set_option maxRecDepth 20000 in
set_option maxHeartbeats 8000000 in
theorem mdeliver_any {w : World} {D base : Nat} {V : Nat → Value} {m : Mdl} {b : Nat} {v : Int} (H : MdlAt w D base V m) (hbw : base ≤ w.heap.size) (hb : b < 16) (hv : v % 16 = b) (hl : (m.bx b).length ≤ 900) :
    Calls Tryz.prog 75 #[.pointer (some ⟨D, 0, none⟩), .int .i64 v] w fun e w' => ∃ V' c hm mm m', e = .returned (.agg (resCs c ((b % 4 : Nat) : Int) (-1) 0 hm mm none 0 0)) ∧ ((m.bx b = [] ∧ c = 2 ∧ hm = false ∧ mm = msg0 ∧ m' = m) ∨ ∃ l, m.bx b = mm :: l ∧ c = 0 ∧ hm = true ∧ m' = m.deliver b) ∧ MdlAt w' D base V' m' ∧ MFr D V V' w w' := by
  have b0 : (0 : Int) ≤ b := by omega
  have b1 : (b : Int) < 16 := by omega
  have hmod := fun w => mod_any v 16 (.inr rfl) w
  rw [hv] at hmod
  have hDl := H.dlt
  go_enter Tryz.func75, Tryz.ntmps75
  go_wp2_with fail
  refine (hmod _).mono ?_
  rintro e wa ⟨rfl, e⟩
  have ea : wa = w.alloc (.cells #[.int .i64 0, .int .i64 0, .int .i64 0, .int .u64 0, .bool false, .int .i64 0, .int .i64 0, .int .u32 0, .int .u64 0, .int .u64 0, .int .u64 0, .int .u64 0, .int .u64 0, .int .u64 0, .slice none 0 0] 43) := e
  clear e hmod
  have ba : Below w.heap.size w wa := by rw [ea]; exact one_alloc w _
  have ra : RowR wa w.heap.size #[.int .i64 0, .int .i64 0, .int .i64 0, .int .u64 0, .bool false, .int .i64 0, .int .i64 0, .int .u32 0, .int .u64 0, .int .u64 0, .int .u64 0, .int .u64 0, .int .u64 0, .int .u64 0, .slice none 0 0] := by rw [ea]; exact RowR.new w _
  have hsa : wa.heap.size = w.heap.size + 1 := by rw [ea]; simp
  have HEA := hideIt ea
  clear ea
  have hbs : base ≤ wa.heap.size := by omega
  have Ha := H.below ba
  have Mw0 := ((MFr.refl D V w).below ba).mw
  have n4D : w.heap.size ≠ D := by omega
  go_upto_region 2 with fail
  go_cut [6] (fun a6 wd => ∃ b6 : Nat, a6 = .pointer (some ⟨b6, 0, none⟩) ∧ MdlAt wd D base V m ∧ RowR wd b6 (resCs 0 (-1) (-1) 0 false msg0 none 0 0) ∧ (∃ c4, RowR wd w.heap.size c4 ∧ c4.size = 15) ∧ MW D V V w wd ∧ Off V b6 ∧ Off V w.heap.size ∧ (w.heap.size < b6 ∧ base ≤ wd.heap.size))
  case first =>
    go_wp2_with fail
    refine (answer_any 0 wa).mono ?_
    rintro e w2 ⟨rfl, hb2⟩
    have hs2 := hb2.size
    have HB2 := hideIt hb2
    clear hb2
    unfold resV
    go_wp2
    go_meet
    case rel =>
      have b1 := one_alloc w2 (.cells (resCs 0 (-1) (-1) 0 false msg0 none 0 0) 43)
      have bb := HB2.out.trans (b1.mono hs2)
      exact ⟨w2.heap.size, rfl, Ha.below bb, RowR.new w2 _, ⟨_, ra.blk (bb.block w.heap.size (by omega)), rfl⟩, Mw0.below bb, H.off (by omega), H.off (Nat.le_refl _), by omega, Nat.le_trans hbs bb.size⟩
  case rest =>
  clear Mw0 Ha ra hbs HEA ba
  obtain ⟨b6, rfl, H1, R6, H4, Mw, o6, o4, hb6⟩ := hcut
  have n6D : b6 ≠ D := by omega
  have q1 := R6.cell (j := 1) rfl
  have fz6 := R6.fz
  go_upto_region 3 with fail
  go_cut [] (fun wd => MdlAt wd D base V m ∧ RowR wd b6 (resCs 0 ((b % 4 : Nat) : Int) (-1) 0 false msg0 none 0 0) ∧ (∃ c4, RowR wd w.heap.size c4 ∧ c4.size = 15) ∧ MW D V V w wd ∧ Off V b6 ∧ Off V w.heap.size ∧ (w.heap.size < b6 ∧ base ≤ wd.heap.size))
  case first =>
    go_wp2_with fail
    refine (to_any hb).mono ?_
    rintro e wc ⟨rfl, rfl⟩
    go_wp2
    go_meet
    case rel =>
      obtain ⟨c4, R4, hc4⟩ := H4
      exact ⟨H1.other n6D o6, R6.set, ⟨c4, R4.blk (far_set (by omega)), hc4⟩, Mw.set (by omega), o6, o4, hb6.1, by simpa using hb6.2⟩
  case rest =>
  clear H1 R6 H4 Mw o6 o4 hb6 q1 fz6
  obtain ⟨H1, R6, H4, Mw, o6, o4, hb6⟩ := hcut
  obtain ⟨s0, hown⟩ := H1.brow hb
  obtain ⟨pv, cap, ev⟩ := own_shape hown
  rw [ev] at s0 hown
  cases hbx : m.bx b with
  | nil =>
    rw [hbx] at s0 hown
    simp only [List.length_nil] at s0
    have HBX := hideIt hbx
    clear hbx
    have q0 := R6.cell (j := 0) rfl
    have fz6 := R6.fz
    go_upto_region 5 with fail
    go_cut [] (fun wd => MdlAt wd D base V m ∧ RowR wd b6 (resCs 2 ((b % 4 : Nat) : Int) (-1) 0 false msg0 none 0 0) ∧ (∃ c4, RowR wd w.heap.size c4 ∧ c4.size = 15) ∧ MW D V V w wd ∧ Off V b6 ∧ Off V w.heap.size ∧ (w.heap.size < b6 ∧ base ≤ wd.heap.size))
    case first =>

      go_wp2
      go_meet
      case rel =>
        obtain ⟨c4, R4, hc4⟩ := H4
        exact ⟨H1.other n6D o6, R6.set, ⟨c4, R4.blk (far_set (by omega)), hc4⟩, Mw.set (by omega), o6, o4, hb6.1, by simpa using hb6.2⟩
    case rest =>
    clear H1 R6 H4 Mw o6 o4 hb6 q0 fz6
    obtain ⟨H1, R6, H4, Mw, o6, o4, hb6⟩ := hcut
    obtain ⟨c4, R4, hc4⟩ := H4
    have hl43 := R6.load rfl
    have hs43 := R4.store hc4 (cs := (resCs 2 ((b % 4 : Nat) : Int) (-1) 0 false msg0 none 0 0)) rfl (resCs_one _ _ _ _ _ _ _ _ _)
    go_upto_region 6 with fail
    go_wp2_with (first | (refine wpList_load_row rfl (.tmp 6) 43 rfl ⟨b6, 0, none⟩ (.agg (resCs 2 ((b % 4 : Nat) : Int) (-1) 0 false msg0 none 0 0)) rfl hl43 ?_) | (refine wpList_store_row rfl (.tmp 4) (.tmp 22) 43 rfl ⟨w.heap.size, 0, none⟩ (.agg (resCs 2 ((b % 4 : Nat) : Int) (-1) 0 false msg0 none 0 0)) rfl rfl hs43 ?_) | go_in)
    refine bodyPost_ret (v := .agg (resCs 2 ((b % 4 : Nat) : Int) (-1) 0 false msg0 none 0 0)) (results_cell_row rfl _ _ w.heap.size 43 _ (0, 0) _ rfl R4.row Tryz.underlying43 rfl sz43) rfl ⟨V, 2, false, msg0, m, rfl, .inl ⟨HBX.out, rfl, rfl, rfl, rfl⟩, H1.otherRow n4D o4, (Mw.row (Nat.le_refl _)).fr⟩
  | cons mm l =>
    rw [hbx] at s0 hown hl
    have HBX := hideIt hbx
    clear hbx
    obtain ⟨g, rfl, N9⟩ := msg_first hown (by simp)
    obtain ⟨n, hn⟩ : ∃ n, n = (mm :: l).length := ⟨_, rfl⟩
    rw [← hn] at s0 hown hl
    have hn0 : 0 < n := by rw [hn]; simp
    have HN := hideIt hn
    clear hn
    have hnz : ((n : Int) == 0) = false := beq_eq_false_iff_ne.2 (by omega)
    have n0' : (0 : Int) < (n : Int) := by omega
    have hgo : some g ≠ some b6 := fun e => o6 (4 + b) (by omega) (by rw [ev]; exact e)
    have hgb6 : g ≠ b6 := fun e => hgo (by rw [e])
    have hg6 : b6 ≠ g := fun e => hgb6 e.symm
    have q4 := R6.cell (j := 4) rfl
    have fz6 := R6.fz
    go_upto_region 7 with fail
    go_cut [] (fun wd => (MdlAt wd D base V m ∧ RowR wd b6 (resCs 0 ((b % 4 : Nat) : Int) (-1) 0 true msg0 none 0 0) ∧ (∃ c4, RowR wd w.heap.size c4 ∧ c4.size = 15) ∧ MW D V V w wd ∧ Off V b6 ∧ Off V w.heap.size ∧ (w.heap.size < b6 ∧ base ≤ wd.heap.size)) ∧ NineO wd g 0 mm)
    case first =>
      go_wp2
      go_meet
      case rel =>
        obtain ⟨c4, R4, hc4⟩ := H4
        exact ⟨⟨H1.other n6D o6, R6.set, ⟨c4, R4.blk (far_set (by omega)), hc4⟩, Mw.set (by omega), o6, o4, hb6.1, by simpa using hb6.2⟩, nineO_blk N9 (far_set hgb6)⟩
    case rest =>
    clear H1 R6 H4 Mw o6 o4 hb6 q4 fz6 N9 s0 hown
    obtain ⟨⟨H1, R6, H4, Mw, o6, o4, hb6⟩, N9⟩ := hcut
    have s0 := (H1.brow hb).1
    rw [ev] at s0
    obtain ⟨y0, y1, y2, y3, y4, y5, y6, y7, y8⟩ := N9
    have r5 := R6.cell (j := 5) rfl
    have r6 := R6.cell (j := 6) rfl
    have r7 := R6.cell (j := 7) rfl
    have r8 := R6.cell (j := 8) rfl
    have r9 := R6.cell (j := 9) rfl
    have r10 := R6.cell (j := 10) rfl
    have r11 := R6.cell (j := 11) rfl
    have r12 := R6.cell (j := 12) rfl
    have r13 := R6.cell (j := 13) rfl
    have fz6 := R6.fz
    have hnl : (mm :: l).length = n := HN.out.symm
    rw [HBX.out, hnl] at s0
    clear hnl
    go_upto_region 8 with fail
    go_cut [] (fun wd => MdlAt wd D base V m ∧ RowR wd b6 (resCs 0 ((b % 4 : Nat) : Int) (-1) 0 true mm none 0 0) ∧ (∃ c4, RowR wd w.heap.size c4 ∧ c4.size = 15) ∧ MW D V V w wd ∧ Off V b6 ∧ Off V w.heap.size ∧ (w.heap.size < b6 ∧ base ≤ wd.heap.size))
    case first =>
      simp only [Nat.zero_add] at y1 y2 y3 y4 y5 y6 y7 y8
      go_wp2
      go_meet
      case rel =>
        obtain ⟨c4, R4, hc4⟩ := H4
        have n46 : w.heap.size ≠ b6 := by omega
        refine ⟨?_, ?_, ⟨c4, ?_, hc4⟩, ?_, o6, o4, hb6.1, by simpa using hb6.2⟩
        · exact (((((((((H1.other (o := 5) (v := .int .i64 mm.mf) n6D o6).other (o := 6) (v := .int .i64 mm.mt) n6D o6).other (o := 7) (v := .int .u32 mm.md) n6D o6).other (o := 8) (v := .int .u64 mm.mq) n6D o6).other (o := 9) (v := .int .u64 mm.ma) n6D o6).other (o := 10) (v := .int .u64 mm.x0) n6D o6).other (o := 11) (v := .int .u64 mm.x1) n6D o6).other (o := 12) (v := .int .u64 mm.x2) n6D o6).other (o := 13) (v := .int .u64 mm.x3) n6D o6)
        · have hR := (((((((((R6.set (o := 5) (v := .int .i64 mm.mf)).set (o := 6) (v := .int .i64 mm.mt)).set (o := 7) (v := .int .u32 mm.md)).set (o := 8) (v := .int .u64 mm.mq)).set (o := 9) (v := .int .u64 mm.ma)).set (o := 10) (v := .int .u64 mm.x0)).set (o := 11) (v := .int .u64 mm.x1)).set (o := 12) (v := .int .u64 mm.x2)).set (o := 13) (v := .int .u64 mm.x3))
          rw [resCs_msg] at hR
          exact hR
        · exact (((((((((R4.blk (far_set (i := 5) (v := .int .i64 mm.mf) n46)).blk (far_set (i := 6) (v := .int .i64 mm.mt) n46)).blk (far_set (i := 7) (v := .int .u32 mm.md) n46)).blk (far_set (i := 8) (v := .int .u64 mm.mq) n46)).blk (far_set (i := 9) (v := .int .u64 mm.ma) n46)).blk (far_set (i := 10) (v := .int .u64 mm.x0) n46)).blk (far_set (i := 11) (v := .int .u64 mm.x1) n46)).blk (far_set (i := 12) (v := .int .u64 mm.x2) n46)).blk (far_set (i := 13) (v := .int .u64 mm.x3) n46))
        · have hbb : w.heap.size ≤ b6 := by omega
          exact (((((((((Mw.set (o := 5) (v := .int .i64 mm.mf) hbb).set (o := 6) (v := .int .i64 mm.mt) hbb).set (o := 7) (v := .int .u32 mm.md) hbb).set (o := 8) (v := .int .u64 mm.mq) hbb).set (o := 9) (v := .int .u64 mm.ma) hbb).set (o := 10) (v := .int .u64 mm.x0) hbb).set (o := 11) (v := .int .u64 mm.x1) hbb).set (o := 12) (v := .int .u64 mm.x2) hbb).set (o := 13) (v := .int .u64 mm.x3) hbb)
    case rest =>
    clear H1 R6 H4 Mw o6 o4 hb6 y0 y1 y2 y3 y4 y5 y6 y7 y8 r5 r6 r7 r8 r9 r10 r11 r12 r13 fz6 s0
    obtain ⟨H1, R6, H4, Mw, o6, o4, hb6⟩ := hcut
    obtain ⟨s0, hown⟩ := H1.brow hb
    have hnl : (mm :: l).length = n := HN.out.symm
    rw [ev, HBX.out, hnl] at s0 hown
    clear hnl
    have hDw := H1.dlt
    have hDr : some D ≠ some g := fun e => by have := (hown.lt g rfl).1; have := H1.lt; have : D = g := Option.some.inj e; omega
    have fz := H1.fz
    have hl6 := R6.lt
    go_upto_region 9 with fail
    go_cut [] (fun wd => ∃ V2, MdlAt wd D base V2 (m.setBx b l) ∧ RowR wd b6 (resCs 0 ((b % 4 : Nat) : Int) (-1) 0 true mm none 0 0) ∧ (∃ c4, RowR wd w.heap.size c4 ∧ c4.size = 15) ∧ MW D V V2 w wd ∧ Off V2 b6 ∧ Off V2 w.heap.size ∧ (w.heap.size < b6 ∧ base ≤ wd.heap.size))
    case first =>
      refine wp_region_l (l := 12) (S := (fun w' => w'.cell? ⟨D, 53 + b, none⟩ = some (.slice (some ⟨g, 0, none⟩) n cap))) (by kernel_rfl) s0 (fun hHeld => ?_)
      refine AnyL.take2 (i := 0) (oi := { dst := some 33, op := Go.Op.move (Go.Operand.tmp 0), type := 26, pos := _, after := #[], guard := none }) (v := ?vv1) (by kernel_rfl) (by kernel_rfl) rfl (by kernel_rfl) (by kernel_rfl) (by kernel_rfl) (fun _ _ _ h => h) (Or.inl ⟨by rfl, ?hy1⟩) (by assumption) ?tk1
      case hy1 => (intro w hSw; (try dsimp only at hSw); go_simp; (try with_reducible rfl))
      try simp only [Act.put, List.setIfInBounds_toArray, List.set_cons_zero, List.set_cons_succ]
      refine AnyL.take2 (i := 1) (oi := { dst := some 34, op := Go.Op.move (Go.Operand.tmp 5), type := 65, pos := _, after := #[], guard := none }) (v := ?vv2) (by kernel_rfl) (by kernel_rfl) rfl (by kernel_rfl) (by kernel_rfl) (by kernel_rfl) (fun _ _ _ h => h) (Or.inl ⟨by rfl, ?hy2⟩) (by assumption) ?tk2
      case hy2 => (intro w hSw; (try dsimp only at hSw); go_simp; (try with_reducible rfl))
      try simp only [Act.put, List.setIfInBounds_toArray, List.set_cons_zero, List.set_cons_succ]
      refine AnyL.take2 (i := 2) (oi := { dst := some 35, op := Go.Op.move (Go.Operand.tmp 0), type := 26, pos := _, after := #[], guard := none }) (v := ?vv3) (by kernel_rfl) (by kernel_rfl) rfl (by kernel_rfl) (by kernel_rfl) (by kernel_rfl) (fun _ _ _ h => h) (Or.inl ⟨by rfl, ?hy3⟩) (by assumption) ?tk3
      case hy3 => (intro w hSw; (try dsimp only at hSw); go_simp; (try with_reducible rfl))
      try simp only [Act.put, List.setIfInBounds_toArray, List.set_cons_zero, List.set_cons_succ]
      refine AnyL.take2 (i := 3) (oi := { dst := some 36, op := Go.Op.move (Go.Operand.tmp 5), type := 65, pos := _, after := #[], guard := none }) (v := ?vv4) (by kernel_rfl) (by kernel_rfl) rfl (by kernel_rfl) (by kernel_rfl) (by kernel_rfl) (fun _ _ _ h => h) (Or.inl ⟨by rfl, ?hy4⟩) (by assumption) ?tk4
      case hy4 => (intro w hSw; (try dsimp only at hSw); go_simp; (try with_reducible rfl))
      try simp only [Act.put, List.setIfInBounds_toArray, List.set_cons_zero, List.set_cons_succ]
      refine AnyL.take2 (i := 4) (oi := { dst := some 37, op := Go.Op.nilCheck (Go.Operand.tmp 35), type := 0, pos := _, after := #[{ on := 2, ground := Go.Ground.data }], guard := none }) (v := ?vv5) (by kernel_rfl) (by kernel_rfl) rfl (by kernel_rfl) (by kernel_rfl) (by kernel_rfl) (fun _ _ _ h => h) (Or.inl ⟨by rfl, ?hy5⟩) (by assumption) ?tk5
      case hy5 => (intro w hSw; (try dsimp only at hSw); go_simp; (try with_reducible rfl))
      try simp only [Act.put, List.setIfInBounds_toArray, List.set_cons_zero, List.set_cons_succ]
      refine AnyL.take2 (i := 5) (oi := { dst := some 38, op := Go.Op.fieldAddr 135 (Go.Operand.tmp 37) 3, type := 0, pos := _, after := #[{ on := 4, ground := Go.Ground.data }], guard := none }) (v := ?vv6) (by kernel_rfl) (by kernel_rfl) rfl (by kernel_rfl) (by kernel_rfl) (by kernel_rfl) (fun _ _ _ h => h) (Or.inl ⟨by rfl, ?hy6⟩) (by assumption) ?tk6
      case hy6 => (intro w hSw; (try dsimp only at hSw); go_simp; (try with_reducible rfl))
      try simp only [Act.put, List.setIfInBounds_toArray, List.set_cons_zero, List.set_cons_succ]
      refine AnyL.take2 (i := 6) (oi := { dst := some 39, op := Go.Op.indexAddr 57 (Go.Operand.tmp 38) (Go.Operand.tmp 36), type := 0, pos := _, after := #[{ on := 5, ground := Go.Ground.data }, { on := 3, ground := Go.Ground.data }], guard := none }) (v := ?vv7) (by kernel_rfl) (by kernel_rfl) rfl (by kernel_rfl) (by kernel_rfl) (by kernel_rfl) (fun _ _ _ h => h) (Or.inl ⟨by rfl, ?hy7⟩) (by assumption) ?tk7
      case hy7 => (intro w hSw; (try dsimp only at hSw); go_simp; (try with_reducible rfl))
      try simp only [Act.put, List.setIfInBounds_toArray, List.set_cons_zero, List.set_cons_succ]
      refine AnyL.take2 (i := 7) (oi := { dst := some 40, op := Go.Op.load 56 (Go.Operand.tmp 39), type := 56, pos := _, after := #[{ on := 6, ground := Go.Ground.data }], guard := none }) (v := ?vv8) (by kernel_rfl) (by kernel_rfl) rfl (by kernel_rfl) (by kernel_rfl) (by kernel_rfl) (fun _ _ _ h => h) (Or.inl ⟨by rfl, ?hy8⟩) (by assumption) ?tk8
      case hy8 => (intro w hSw; (try dsimp only at hSw); go_simp; (try with_reducible rfl))
      try simp only [Act.put, List.setIfInBounds_toArray, List.set_cons_zero, List.set_cons_succ]
      refine AnyL.take2 (i := 9) (oi := { dst := some 42, op := Go.Op.nilCheck (Go.Operand.tmp 33), type := 0, pos := _, after := #[{ on := 0, ground := Go.Ground.data }], guard := none }) (v := ?vv9) (by kernel_rfl) (by kernel_rfl) rfl (by kernel_rfl) (by kernel_rfl) (by kernel_rfl) (fun _ _ _ h => h) (Or.inl ⟨by rfl, ?hy9⟩) (by assumption) ?tk9
      case hy9 => (intro w hSw; (try dsimp only at hSw); go_simp; (try with_reducible rfl))
      try simp only [Act.put, List.setIfInBounds_toArray, List.set_cons_zero, List.set_cons_succ]
      refine AnyL.take2 (i := 10) (oi := { dst := some 43, op := Go.Op.fieldAddr 135 (Go.Operand.tmp 42) 3, type := 0, pos := _, after := #[{ on := 9, ground := Go.Ground.data }], guard := none }) (v := ?vv10) (by kernel_rfl) (by kernel_rfl) rfl (by kernel_rfl) (by kernel_rfl) (by kernel_rfl) (fun _ _ _ h => h) (Or.inl ⟨by rfl, ?hy10⟩) (by assumption) ?tk10
      case hy10 => (intro w hSw; (try dsimp only at hSw); go_simp; (try with_reducible rfl))
      try simp only [Act.put, List.setIfInBounds_toArray, List.set_cons_zero, List.set_cons_succ]
      refine AnyL.one (i := 8) (o := { dst := some 41, op := Go.Op.call { callee := Go.Callee.value (Go.Operand.func 155), args := #[Go.Operand.tmp 40, Go.Operand.const (Go.Value.int Go.IntKind.i64 0), Go.Operand.const (Go.Value.int Go.IntKind.i64 1)], argTypes := #[56, 3, 3] }, type := 56, pos := _, after := #[{ on := 7, ground := Go.Ground.data }], guard := none }) (by kernel_rfl) rfl rfl (fun K' hK' => ?_)
      go_simp
      go_at_call 155
      refine (delete_msgs (i := 0) (w := World.drew wc) hown (msgs_one _) hn0 (by omega)).mono ?_
      rintro e w3 ⟨rfl, hown', hgrow⟩
      have fz3 := fun o => (World.frozen?_of_block (a := ⟨D, o, none⟩) (hgrow.block D hDw hDr)).trans (fz o)
      have k0 := hgrow.cell (a := ⟨D, 53 + b, none⟩) hHeld hDr
      have HG := hideIt (And.intro hown' hgrow)
      clear hown' hgrow
      clear hHeld
      refine hK'.out _ _ k0 (fun hHeld => ?_)
      clear hK' K'
      try simp only [Act.put, List.setIfInBounds_toArray, List.set_cons_zero, List.set_cons_succ]
      refine AnyL.take2 (i := 11) (oi := { dst := some 44, op := Go.Op.indexAddr 57 (Go.Operand.tmp 43) (Go.Operand.tmp 34), type := 0, pos := _, after := #[{ on := 10, ground := Go.Ground.data }, { on := 1, ground := Go.Ground.data }, { on := 0, ground := Go.Ground.phase }, { on := 1, ground := Go.Ground.phase }, { on := 2, ground := Go.Ground.phase }, { on := 3, ground := Go.Ground.phase }, { on := 4, ground := Go.Ground.phase }, { on := 5, ground := Go.Ground.phase }, { on := 6, ground := Go.Ground.phase }, { on := 7, ground := Go.Ground.phase }, { on := 8, ground := Go.Ground.phase }], guard := none }) (v := ?vv11) (by kernel_rfl) (by kernel_rfl) rfl (by kernel_rfl) (by kernel_rfl) (by kernel_rfl) (fun _ _ _ h => h) (Or.inl ⟨by rfl, ?hy11⟩) (by assumption) ?tk11
      case hy11 => (intro w hSw; (try dsimp only at hSw); go_simp; (try with_reducible rfl))
      try simp only [Act.put, List.setIfInBounds_toArray, List.set_cons_zero, List.set_cons_succ]
      refine AnyL.last (o := { dst := none, op := Go.Op.store 56 (Go.Operand.tmp 44) (Go.Operand.tmp 41), type := 0, pos := _, after := #[{ on := 11, ground := Go.Ground.data }, { on := 8, ground := Go.Ground.data }, { on := 8, ground := Go.Ground.chain }, { on := 0, ground := Go.Ground.phase }, { on := 1, ground := Go.Ground.phase }, { on := 2, ground := Go.Ground.phase }, { on := 3, ground := Go.Ground.phase }, { on := 4, ground := Go.Ground.phase }, { on := 5, ground := Go.Ground.phase }, { on := 6, ground := Go.Ground.phase }, { on := 7, ground := Go.Ground.phase }, { on := 8, ground := Go.Ground.phase }], guard := none }) (by kernel_rfl) rfl (by kernel_rfl) (fun K' hK' => ?_)
      go_simp
      clear hHeld
      refine hK'.out _ _ ?_
      clear hK' K'
      try simp only [Act.put, List.setIfInBounds_toArray, List.set_cons_zero, List.set_cons_succ]
      go_wp2
      go_meet
      case rel =>
        obtain ⟨ho, hg⟩ := HG.out
        obtain ⟨H8, F8⟩ := H1.newBx (l := l) hb (w3 := w3) (v' := .slice (some ⟨g, 0, none⟩) (n - 1) cap) (by rw [ev]; exact ⟨hg.os, hg.tape, hg.output, hg.size, hg.block⟩) (by rw [msg_drop] at ho; rw [show l.length = n - 1 by rw [HN.out]; simp]; exact ho) (by rw [ev]; exact .inl rfl)
        obtain ⟨c4, R4, hc4⟩ := H4
        exact ⟨_, H8, R6.blk (F8.keep o6 hl6 n6D), ⟨c4, R4.blk (F8.keep o4 R4.lt n4D), hc4⟩, Mw.then F8, F8.off o6 hl6, F8.off o4 R4.lt, hb6.1, Nat.le_trans hb6.2 F8.size⟩
    case rest =>
    clear H1 R6 H4 Mw o6 o4 hb6 s0 hown fz hDw hDr ev hl6
    obtain ⟨V2, H1, R6, H4, Mw, o6, o4, hb6⟩ := hcut
    have hb4 : b % 4 < 4 := Nat.mod_lt _ (by omega)
    have s0 := H1.stc (j := b % 4 * 7 + 3) (by omega)
    rw [← Nat.add_assoc] at s0
    have hsx : ∃ sv, sv = (m.setBx b l).st (b % 4 * 7 + 3) := ⟨_, rfl⟩
    obtain ⟨sv, hsv⟩ := hsx
    rw [← hsv] at s0
    have HSV := hideIt hsv
    clear hsv
    have fz := H1.fz
    have k0' : (0 : Int) ≤ ((b % 4 : Nat) : Int) := by omega
    have k1' : ((b % 4 : Nat) : Int) < 4 := by omega
    have hto := fun w => to_any (w := w) hb
    have HDV : Hid (m.deliver b = (m.setBx b l).inc (b % 4 * 7 + 3)) := hideIt (by unfold Mdl.deliver; rw [HBX.out]; rfl)
    generalize hbb4 : b % 4 = b4 at *
    go_upto_region 10 with fail
    go_cut [] (fun wd => MdlAt wd D base V2 ((m.setBx b l).inc (b4 * 7 + 3)) ∧ RowR wd b6 (resCs 0 ((b4 : Nat) : Int) (-1) 0 true mm none 0 0) ∧ (∃ c4, RowR wd w.heap.size c4 ∧ c4.size = 15) ∧ MW D V V2 w wd ∧ Off V2 b6 ∧ Off V2 w.heap.size ∧ (w.heap.size < b6 ∧ base ≤ wd.heap.size))
    case first =>
      refine wp_region_l (l := 13) (S := (fun w' => w'.cell? ⟨D, 87 + b4 * 7 + 3, none⟩ = some (.int .u64 sv))) (by kernel_rfl) s0 (fun hHeld => ?_)
      refine AnyL.take2 (i := 0) (oi := { dst := some 45, op := Go.Op.move (Go.Operand.tmp 0), type := 26, pos := _, after := #[], guard := none }) (v := ?vv12) (by kernel_rfl) (by kernel_rfl) rfl (by kernel_rfl) (by kernel_rfl) (by kernel_rfl) (fun _ _ _ h => h) (Or.inl ⟨by rfl, ?hy12⟩) (by assumption) ?tk12
      case hy12 => (intro w hSw; (try dsimp only at hSw); go_simp; (try with_reducible rfl))
      try simp only [Act.put, List.setIfInBounds_toArray, List.set_cons_zero, List.set_cons_succ]
      refine AnyL.take2 (i := 1) (oi := { dst := some 46, op := Go.Op.move (Go.Operand.tmp 5), type := 65, pos := _, after := #[], guard := none }) (v := ?vv13) (by kernel_rfl) (by kernel_rfl) rfl (by kernel_rfl) (by kernel_rfl) (by kernel_rfl) (fun _ _ _ h => h) (Or.inl ⟨by rfl, ?hy13⟩) (by assumption) ?tk13
      case hy13 => (intro w hSw; (try dsimp only at hSw); go_simp; (try with_reducible rfl))
      try simp only [Act.put, List.setIfInBounds_toArray, List.set_cons_zero, List.set_cons_succ]
      refine AnyL.take2 (i := 3) (oi := { dst := some 48, op := Go.Op.nilCheck (Go.Operand.tmp 45), type := 0, pos := _, after := #[{ on := 0, ground := Go.Ground.data }], guard := none }) (v := ?vv14) (by kernel_rfl) (by kernel_rfl) rfl (by kernel_rfl) (by kernel_rfl) (by kernel_rfl) (fun _ _ _ h => h) (Or.inl ⟨by rfl, ?hy14⟩) (by assumption) ?tk14
      case hy14 => (intro w hSw; (try dsimp only at hSw); go_simp; (try with_reducible rfl))
      try simp only [Act.put, List.setIfInBounds_toArray, List.set_cons_zero, List.set_cons_succ]
      refine AnyL.take2 (i := 4) (oi := { dst := some 49, op := Go.Op.fieldAddr 135 (Go.Operand.tmp 48) 7, type := 0, pos := _, after := #[{ on := 3, ground := Go.Ground.data }], guard := none }) (v := ?vv15) (by kernel_rfl) (by kernel_rfl) rfl (by kernel_rfl) (by kernel_rfl) (by kernel_rfl) (fun _ _ _ h => h) (Or.inl ⟨by rfl, ?hy15⟩) (by assumption) ?tk15
      case hy15 => (intro w hSw; (try dsimp only at hSw); go_simp; (try with_reducible rfl))
      try simp only [Act.put, List.setIfInBounds_toArray, List.set_cons_zero, List.set_cons_succ]
      refine AnyL.take2 (i := 9) (oi := { dst := some 54, op := Go.Op.nilCheck (Go.Operand.tmp 45), type := 0, pos := _, after := #[{ on := 0, ground := Go.Ground.data }], guard := none }) (v := ?vv16) (by kernel_rfl) (by kernel_rfl) rfl (by kernel_rfl) (by kernel_rfl) (by kernel_rfl) (fun _ _ _ h => h) (Or.inl ⟨by rfl, ?hy16⟩) (by assumption) ?tk16
      case hy16 => (intro w hSw; (try dsimp only at hSw); go_simp; (try with_reducible rfl))
      try simp only [Act.put, List.setIfInBounds_toArray, List.set_cons_zero, List.set_cons_succ]
      refine AnyL.take2 (i := 10) (oi := { dst := some 55, op := Go.Op.fieldAddr 135 (Go.Operand.tmp 54) 7, type := 0, pos := _, after := #[{ on := 9, ground := Go.Ground.data }], guard := none }) (v := ?vv17) (by kernel_rfl) (by kernel_rfl) rfl (by kernel_rfl) (by kernel_rfl) (by kernel_rfl) (fun _ _ _ h => h) (Or.inl ⟨by rfl, ?hy17⟩) (by assumption) ?tk17
      case hy17 => (intro w hSw; (try dsimp only at hSw); go_simp; (try with_reducible rfl))
      try simp only [Act.put, List.setIfInBounds_toArray, List.set_cons_zero, List.set_cons_succ]
      refine AnyL.one (i := 2) (o := { dst := some 47, op := Go.Op.call { callee := Go.Callee.value (Go.Operand.func 27), args := #[Go.Operand.tmp 46], argTypes := #[65] }, type := 34, pos := _, after := #[{ on := 1, ground := Go.Ground.data }], guard := none }) (by kernel_rfl) rfl rfl (fun K' hK' => ?_)
      go_simp
      go_at_call 27
      refine (hto _).mono ?_
      rintro e w3 ⟨rfl, rfl⟩
      have k0 := hHeld
      clear hHeld
      refine hK'.out _ _ k0 (fun hHeld => ?_)
      clear hK' K'
      try simp only [Act.put, List.setIfInBounds_toArray, List.set_cons_zero, List.set_cons_succ]
      refine AnyL.take2 (i := 5) (oi := { dst := some 50, op := Go.Op.indexAddr 133 (Go.Operand.tmp 49) (Go.Operand.tmp 47), type := 0, pos := _, after := #[{ on := 4, ground := Go.Ground.data }, { on := 2, ground := Go.Ground.data }], guard := none }) (v := ?vv18) (by kernel_rfl) (by kernel_rfl) rfl (by kernel_rfl) (by kernel_rfl) (by kernel_rfl) (fun _ _ _ h => h) (Or.inl ⟨by rfl, ?hy18⟩) (by assumption) ?tk18
      case hy18 => (intro w hSw; (try dsimp only at hSw); go_simp; (try with_reducible rfl))
      try simp only [Act.put, List.setIfInBounds_toArray, List.set_cons_zero, List.set_cons_succ]
      refine AnyL.take2 (i := 6) (oi := { dst := some 51, op := Go.Op.fieldAddr 52 (Go.Operand.tmp 50) 3, type := 0, pos := _, after := #[{ on := 5, ground := Go.Ground.data }], guard := none }) (v := ?vv19) (by kernel_rfl) (by kernel_rfl) rfl (by kernel_rfl) (by kernel_rfl) (by kernel_rfl) (fun _ _ _ h => h) (Or.inl ⟨by rfl, ?hy19⟩) (by assumption) ?tk19
      case hy19 => (intro w hSw; (try dsimp only at hSw); go_simp; (try with_reducible rfl))
      try simp only [Act.put, List.setIfInBounds_toArray, List.set_cons_zero, List.set_cons_succ]
      refine AnyL.take2 (i := 7) (oi := { dst := some 52, op := Go.Op.load 28 (Go.Operand.tmp 51), type := 28, pos := _, after := #[{ on := 6, ground := Go.Ground.data }], guard := none }) (v := ?vv20) (by kernel_rfl) (by kernel_rfl) rfl (by kernel_rfl) (by kernel_rfl) (by kernel_rfl) (fun _ _ _ h => h) (Or.inl ⟨by rfl, ?hy20⟩) (by assumption) ?tk20
      case hy20 => (intro w hSw; (try dsimp only at hSw); go_simp; (try with_reducible rfl))
      try simp only [Act.put, List.setIfInBounds_toArray, List.set_cons_zero, List.set_cons_succ]
      refine AnyL.take2 (i := 8) (oi := { dst := some 53, op := Go.Op.binOp Go.BinOp.add 28 (Go.Operand.tmp 52) (Go.Operand.const (Go.Value.int Go.IntKind.u64 1)) 28, type := 28, pos := _, after := #[{ on := 7, ground := Go.Ground.data }], guard := none }) (v := ?vv21) (by kernel_rfl) (by kernel_rfl) rfl (by kernel_rfl) (by kernel_rfl) (by kernel_rfl) (fun _ _ _ h => h) (Or.inl ⟨by rfl, ?hy21⟩) (by assumption) ?tk21
      case hy21 => (intro w hSw; (try dsimp only at hSw); go_simp; (try with_reducible rfl))
      try simp only [Act.put, List.setIfInBounds_toArray, List.set_cons_zero, List.set_cons_succ]
      refine AnyL.take2 (i := 11) (oi := { dst := some 56, op := Go.Op.indexAddr 133 (Go.Operand.tmp 55) (Go.Operand.tmp 47), type := 0, pos := _, after := #[{ on := 10, ground := Go.Ground.data }, { on := 2, ground := Go.Ground.data }, { on := 0, ground := Go.Ground.phase }, { on := 1, ground := Go.Ground.phase }, { on := 2, ground := Go.Ground.phase }, { on := 3, ground := Go.Ground.phase }, { on := 4, ground := Go.Ground.phase }, { on := 5, ground := Go.Ground.phase }, { on := 6, ground := Go.Ground.phase }, { on := 7, ground := Go.Ground.phase }, { on := 8, ground := Go.Ground.phase }], guard := none }) (v := ?vv22) (by kernel_rfl) (by kernel_rfl) rfl (by kernel_rfl) (by kernel_rfl) (by kernel_rfl) (fun _ _ _ h => h) (Or.inl ⟨by rfl, ?hy22⟩) (by assumption) ?tk22
      case hy22 => (intro w hSw; (try dsimp only at hSw); go_simp; (try with_reducible rfl))
      try simp only [Act.put, List.setIfInBounds_toArray, List.set_cons_zero, List.set_cons_succ]
      refine AnyL.take2 (i := 12) (oi := { dst := some 57, op := Go.Op.fieldAddr 52 (Go.Operand.tmp 56) 3, type := 0, pos := _, after := #[{ on := 11, ground := Go.Ground.data }, { on := 0, ground := Go.Ground.phase }, { on := 1, ground := Go.Ground.phase }, { on := 2, ground := Go.Ground.phase }, { on := 3, ground := Go.Ground.phase }, { on := 4, ground := Go.Ground.phase }, { on := 5, ground := Go.Ground.phase }, { on := 6, ground := Go.Ground.phase }, { on := 7, ground := Go.Ground.phase }, { on := 8, ground := Go.Ground.phase }], guard := none }) (v := ?vv23) (by kernel_rfl) (by kernel_rfl) rfl (by kernel_rfl) (by kernel_rfl) (by kernel_rfl) (fun _ _ _ h => h) (Or.inl ⟨by rfl, ?hy23⟩) (by assumption) ?tk23
      case hy23 => (intro w hSw; (try dsimp only at hSw); go_simp; (try with_reducible rfl))
      try simp only [Act.put, List.setIfInBounds_toArray, List.set_cons_zero, List.set_cons_succ]
      refine AnyL.last (o := { dst := none, op := Go.Op.store 28 (Go.Operand.tmp 57) (Go.Operand.tmp 53), type := 0, pos := _, after := #[{ on := 12, ground := Go.Ground.data }, { on := 8, ground := Go.Ground.data }, { on := 2, ground := Go.Ground.chain }, { on := 0, ground := Go.Ground.phase }, { on := 1, ground := Go.Ground.phase }, { on := 2, ground := Go.Ground.phase }, { on := 3, ground := Go.Ground.phase }, { on := 4, ground := Go.Ground.phase }, { on := 5, ground := Go.Ground.phase }, { on := 6, ground := Go.Ground.phase }, { on := 7, ground := Go.Ground.phase }, { on := 8, ground := Go.Ground.phase }], guard := none }) (by kernel_rfl) rfl (by kernel_rfl) (fun K' hK' => ?_)
      go_simp
      clear hHeld
      refine hK'.out _ _ ?_
      clear hK' K'
      try simp only [Act.put, List.setIfInBounds_toArray, List.set_cons_zero, List.set_cons_succ]
      go_wp2
      go_meet
      case rel =>
        obtain ⟨H8, F8⟩ := H1.drew.putStat (j := b4 * 7 + 3) (by omega) (inc64 sv)
        rw [← Nat.add_assoc] at H8 F8
        unfold Mdl.inc
        rw [← HSV.out]
        obtain ⟨c4, R4, hc4⟩ := H4
        exact ⟨H8, R6.blk (far_set n6D), ⟨c4, R4.blk (far_set n4D), hc4⟩, (Mw.below (below_dr (Below.refl _ _))).then F8, o6, o4, hb6.1, Nat.le_trans hb6.2 F8.size⟩
    case rest =>
    clear H1 R6 H4 Mw o6 o4 hb6 s0 fz
    obtain ⟨H1, R6, H4, Mw, o6, o4, hb6⟩ := hcut
    obtain ⟨c4, R4, hc4⟩ := H4
    have hl43 := R6.load rfl
    have hs43 := R4.store hc4 (cs := (resCs 0 ((b4 : Nat) : Int) (-1) 0 true mm none 0 0)) rfl (resCs_one _ _ _ _ _ _ _ _ _)
    go_upto_region 11 with fail
    go_wp2_with (first | (refine wpList_load_row rfl (.tmp 6) 43 rfl ⟨b6, 0, none⟩ (.agg (resCs 0 ((b4 : Nat) : Int) (-1) 0 true mm none 0 0)) rfl hl43 ?_) | (refine wpList_store_row rfl (.tmp 4) (.tmp 58) 43 rfl ⟨w.heap.size, 0, none⟩ (.agg (resCs 0 ((b4 : Nat) : Int) (-1) 0 true mm none 0 0)) rfl rfl hs43 ?_) | go_in)
    refine bodyPost_ret (v := .agg (resCs 0 ((b4 : Nat) : Int) (-1) 0 true mm none 0 0)) (results_cell_row rfl _ _ w.heap.size 43 _ (0, 0) _ rfl R4.row Tryz.underlying43 rfl sz43) rfl ⟨V2, 0, true, mm, _, by rw [hbb4], .inr ⟨l, HBX.out, rfl, rfl, HDV.out.symm⟩, H1.otherRow n4D o4, (Mw.row (Nat.le_refl _)).fr⟩
end Go.Proofs.Qxb6500877aGreatDoor
