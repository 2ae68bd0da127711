import Derived.Deep.CutBlock
import Derived.OwnWalk
import Derived.Maps.AppendAt
import Derived.Test.Qxb6500877aGreatDoorAn
set_option linter.unusedVariables false
set_option linter.unusedSimpArgs false
namespace Go.Proofs.Qxb6500877aGreatDoor
open Go.RowKit

theorem tmCells_cons (x : TmR) (l : List TmR) : tmCells (x :: l) = [.int .u64 x.id, .int .i64 x.core, .int .u64 x.dl, .int .u64 x.ck] ++ tmCells l := by simp [tmCells]
theorem tmCells_set : ∀ (l : List TmR) (j : Nat) (t : TmR) (d : Int), l[j]? = some t → tmCells (l.set j { t with dl := d }) = (tmCells l).set (j * 4 + 2) (.int .u64 d)
  | [], j, t, d, h => by simp at h
  | x :: l, 0, t, d, h => by
    simp at h
    subst h
    rw [List.set_cons_zero, tmCells_cons, tmCells_cons]
    rfl
  | x :: l, j + 1, t, d, h => by
    have ih := tmCells_set l j t d (by simpa using h)
    rw [List.set_cons_succ, tmCells_cons, tmCells_cons, ih, List.set_append_right _ _ (by simp; omega)]
    congr 2
    simp
    omega
/-- A row written in its place. -/
theorem MdlAt.inRow {w w3 : World} {D base : Nat} {V : Nat → Value} {m m' : Mdl} {r : Nat} (h : MdlAt w D base V m) (hr : r < 21) (hg : w.grownBy w3 (V r).ownBlock) (ho : w3.ownsRow base (mRT r) (mRS r) (V r) (m'.rn r) (m'.rc r))
    (he : ∀ q, plainO q → m'.enc q = m.enc q) (hn : ∀ s, s < 21 → s ≠ r → m'.rn s = m.rn s ∧ m'.rc s = m.rc s) : MdlAt w3 D base V m' ∧ MFr D V V w w3 := by
  have hlt := h.lt
  have hdl := h.dlt
  have hD3 : w3.heap[D]? = w.heap[D]? := hg.block D hdl (fun e => by have := (h.own r hr).lt D e.symm; omega)
  have c1 : ∀ o, w3.cell? ⟨D, o, none⟩ = w.cell? ⟨D, o, none⟩ := fun o => World.cell?_of_block (a := ⟨D, o, none⟩) hD3
  refine ⟨⟨fun q hq => ?_, fun s hs => (c1 _).trans (h.sl s hs), fun s hs => ?_, h.dis, fun o => (World.frozen?_of_block (a := ⟨D, o, none⟩) hD3).trans (h.fz o), hlt⟩, ⟨hg.os, hg.tape, hg.output, hg.size, fun k hk hkD hkV => hg.block k hk (fun e => hkV r hr e.symm), fun s k hs hk => .inl ⟨s, hs, hk⟩⟩⟩
  · rw [c1, he q hq]; exact h.cell q hq
  · by_cases e : s = r
    · subst e; exact ho
    · rw [(hn s hs e).1, (hn s hs e).2]
      exact (h.own s hs).kept hg (h.dis s r hs hr e)
theorem MdlAt.setDl {w : World} {D base : Nat} {V : Nat → Value} {m : Mdl} (h : MdlAt w D base V m) {g n cap j : Nat} {t : TmR} (ev : V 20 = .slice (some ⟨g, 0, none⟩) n cap) (hj : m.tm[j]? = some t) (d : Int) :
    MdlAt (w.setCell ⟨g, j * 4 + 2, none⟩ (.int .u64 d)) D base V (m.setTm (m.tm.set j { t with dl := d })) ∧ MFr D V V w (w.setCell ⟨g, j * 4 + 2, none⟩ (.int .u64 d)) := by
  have hown := h.trow.2
  have eb : (V 20).ownBlock = some g := by rw [ev]; rfl
  refine h.inRow (r := 20) (by omega) ⟨rfl, rfl, rfl, by simp, fun k _ hk => far_set (fun e => hk (by rw [e, eb]))⟩ ?_ (fun q _ => rfl) (fun s hs hne => ?_)
  · show (w.setCell ⟨g, j * 4 + 2, none⟩ (.int .u64 d)).ownsRow base 84 4 (V 20) (m.tm.set j { t with dl := d }).length (tmCells (m.tm.set j { t with dl := d }))
    rw [List.length_set, tmCells_set _ _ _ _ hj]
    refine ⟨by rw [List.length_set]; exact hown.1, ?_⟩
    rcases hown.2 with ⟨e1, e2⟩ | ⟨g', cap', cur, e1, e2, e3, e4, e5, e6, e7⟩
    · rw [ev] at e1; simp at e1
    · refine .inr ⟨g', cap', cur.setIfInBounds (j * 4 + 2) (.int .u64 d), e1, e2, ?_, e4, e5, by rw [Array.size_setIfInBounds]; exact e6, ?_⟩
      · have : g' = g := by rw [ev] at e1; simp at e1; exact e1.1.symm
        subst this
        simp only [World.setCell, Array.getElem?_modify]
        simp [e3]
      · rw [Array.toList_setIfInBounds, List.take_set, e7]
  · unfold Mdl.rn Mdl.rc
    by_cases q : s < 4
    · rw [if_pos q, if_pos q, if_pos q, if_pos q]
      exact ⟨rfl, rfl⟩
    · have q2 : s < 20 := by omega
      rw [if_neg q, if_neg q, if_neg q, if_neg q, if_pos q2, if_pos q2, if_pos q2, if_pos q2]
      exact ⟨rfl, rfl⟩
theorem row_fz {w : World} {base e s n cap g : Nat} {xs : List Value} (h : w.ownsRow base e s (.slice (some ⟨g, 0, none⟩) n cap) n xs) (o : Nat) : w.frozen? ⟨g, o, none⟩ = false := by
  rcases h.2 with ⟨e1, e2⟩ | ⟨g', cap', cur, e1, e2, e3, _⟩
  · simp at e1
  · have : g' = g := by simp at e1; exact e1.1.symm
    subst this
    simp [World.frozen?, e3]
def RearmM (m : Mdl) (x d : Int) (z co tm : Int) (m' : Mdl) : Prop :=
  ((∀ t ∈ m.tm, t.id ≠ x) ∧ z = 10 ∧ co = -1 ∧ tm = 0 ∧ m' = m) ∨ ∃ (j : Nat) (t : TmR), m.tm[j]? = some t ∧ t.id = x ∧ (∀ s ∈ m.tm.take j, s.id ≠ x) ∧ z = 0 ∧ co = t.core ∧ tm = x ∧ m' = m.setTm (m.tm.set j { t with dl := d })
set_option maxRecDepth 20000 in
set_option maxHeartbeats 8000000 in
theorem mrearm_any {w : World} {D base : Nat} {V : Nat → Value} {m : Mdl} {x d : Int} (H : MdlAt w D base V m) (hbw : base ≤ w.heap.size) (hl : m.tm.length ≤ 900) :
    Calls Tryz.prog 81 #[.pointer (some ⟨D, 0, none⟩), .int .u64 x, .int .u64 d] w fun e w' => ∃ V' z co tm m', e = .returned (.agg (resCs z co (-1) tm false msg0 none 0 0)) ∧ RearmM m x d z co tm m' ∧ MdlAt w' D base V' m' ∧ MFr D V V' w w' := by
  have hDl := H.dlt
  have n4D : w.heap.size ≠ D := by omega
  have hF : MdlAt (World.alloc w (.cells #[.int .i64 0, .int .i64 0, .int .i64 0, .int .u64 0, .bool false, .int .i64 0, .int .i64 0, .int .u32 0, .int .u64 0, .int .u64 0, .int .u64 0, .int .u64 0, .int .u64 0, .int .u64 0, .slice none 0 0] 43)) D base V m ∧ RowR (World.alloc w (.cells #[.int .i64 0, .int .i64 0, .int .i64 0, .int .u64 0, .bool false, .int .i64 0, .int .i64 0, .int .u32 0, .int .u64 0, .int .u64 0, .int .u64 0, .int .u64 0, .int .u64 0, .int .u64 0, .slice none 0 0] 43)) w.heap.size #[.int .i64 0, .int .i64 0, .int .i64 0, .int .u64 0, .bool false, .int .i64 0, .int .i64 0, .int .u32 0, .int .u64 0, .int .u64 0, .int .u64 0, .int .u64 0, .int .u64 0, .int .u64 0, .slice none 0 0] ∧ MW D V V w (World.alloc w (.cells #[.int .i64 0, .int .i64 0, .int .i64 0, .int .u64 0, .bool false, .int .i64 0, .int .i64 0, .int .u32 0, .int .u64 0, .int .u64 0, .int .u64 0, .int .u64 0, .int .u64 0, .int .u64 0, .slice none 0 0] 43)) ∧ Off V w.heap.size ∧ base ≤ (World.alloc w (.cells #[.int .i64 0, .int .i64 0, .int .i64 0, .int .u64 0, .bool false, .int .i64 0, .int .i64 0, .int .u32 0, .int .u64 0, .int .u64 0, .int .u64 0, .int .u64 0, .int .u64 0, .int .u64 0, .slice none 0 0] 43)).heap.size := by
    have bb := one_alloc w (.cells #[.int .i64 0, .int .i64 0, .int .i64 0, .int .u64 0, .bool false, .int .i64 0, .int .i64 0, .int .u32 0, .int .u64 0, .int .u64 0, .int .u64 0, .int .u64 0, .int .u64 0, .int .u64 0, .slice none 0 0] 43)
    exact ⟨H.below bb, RowR.new _ _, ((MFr.refl D V w).below bb).mw, H.off (Nat.le_refl _), Nat.le_trans hbw bb.size⟩
  go_enter Tryz.func81, Tryz.ntmps81
  go_upto_region 1 with fail
  generalize hW0 : World.alloc w (.cells #[.int .i64 0, .int .i64 0, .int .i64 0, .int .u64 0, .bool false, .int .i64 0, .int .i64 0, .int .u32 0, .int .u64 0, .int .u64 0, .int .u64 0, .int .u64 0, .int .u64 0, .int .u64 0, .slice none 0 0] 43) = wc at *
  clear hW0
  obtain ⟨H1, R4, Mw, o4, hbs⟩ := hF
  have hfi := findTimer_any H1 (by omega) x
  go_wp2_with fail
  refine hfi.mono ?_
  rintro e w2 ⟨v, rfl, hv, hb2⟩
  have hF : MdlAt w2 D base V m ∧ RowR w2 w.heap.size #[.int .i64 0, .int .i64 0, .int .i64 0, .int .u64 0, .bool false, .int .i64 0, .int .i64 0, .int .u32 0, .int .u64 0, .int .u64 0, .int .u64 0, .int .u64 0, .int .u64 0, .int .u64 0, .slice none 0 0] ∧ MW D V V w w2 ∧ Off V w.heap.size ∧ base ≤ w2.heap.size := ⟨H1.below hb2, R4.blk (hb2.block _ R4.lt), Mw.below hb2, o4, Nat.le_trans hbs hb2.size⟩
  clear H1 R4 Mw o4 hbs hfi hb2 wc
  rename World => wc
  obtain ⟨H1, R4, Mw, o4, hbs⟩ := hF
  rcases hv with ⟨j, t, hj, hid, rfl, htk⟩ | ⟨rfl, hno⟩
  · have j0 : (0 : Int) ≤ j := by omega
    have jl : j < m.tm.length := (List.getElem?_eq_some_iff.1 hj).1
    have j1 : (j : Int) < (m.tm.length : Int) := by omega
    obtain ⟨s0, hown⟩ := H1.trow
    obtain ⟨pv, cap, ev⟩ := own_shape hown
    rw [ev] at s0 hown
    have hr4 := row_four hown hj
    obtain ⟨g, hp, c0, c1, c2, c3⟩ := hr4
    subst hp
    have fz := row_fz hown
    have n4g : w.heap.size ≠ g := fun e => o4 20 (by omega) (by rw [ev, e]; rfl)
    have ngD : g ≠ D := fun e => by have := (hown.lt g rfl).1; have := H1.lt; omega
    clear hown
    have HJ := hideIt hj
    have HI := hideIt (And.intro hid htk)
    clear hj hid htk jl
    obtain ⟨n, hn⟩ : ∃ n, n = m.tm.length := ⟨_, rfl⟩
    rw [← hn] at s0 j1 hl ev
    have HN := hideIt hn
    clear hn
    go_upto_region 4 with fail
    go_cut [] (fun wd => MdlAt wd D base V (m.setTm (m.tm.set j { t with dl := d })) ∧ RowR wd w.heap.size #[.int .i64 0, .int .i64 0, .int .i64 0, .int .u64 0, .bool false, .int .i64 0, .int .i64 0, .int .u32 0, .int .u64 0, .int .u64 0, .int .u64 0, .int .u64 0, .int .u64 0, .int .u64 0, .slice none 0 0] ∧ MW D V V w wd ∧ Off V w.heap.size ∧ base ≤ wd.heap.size)
    case first =>
      go_wp2
      go_meet
      case rel =>
        obtain ⟨H8, F8⟩ := H1.setDl ev HJ.out d
        exact ⟨H8, R4.blk (far_set n4g), Mw.then F8, o4, Nat.le_trans hbs F8.size⟩
    case rest =>
    clear H1 R4 Mw o4 hbs s0 c0 c1 c2 c3 fz
    obtain ⟨H1, R4, Mw, o4, hbs⟩ := hcut
    obtain ⟨m1, hm1⟩ : ∃ m1, m1 = m.setTm (m.tm.set j { t with dl := d }) := ⟨_, rfl⟩
    rw [← hm1] at H1
    have HJ1 : Hid (m1.tm[j]? = some { t with dl := d }) := hideIt (by
      have hjl : j < m.tm.length := (List.getElem?_eq_some_iff.1 HJ.out).1
      rw [hm1]
      show (m.tm.set j { t with dl := d })[j]? = _
      rw [List.getElem?_set_self hjl])
    have HN1 : Hid (n = m1.tm.length) := hideIt (by
      rw [hm1]
      show n = (m.tm.set j { t with dl := d }).length
      rw [List.length_set]
      exact HN.out)
    have HM1 := hideIt hm1
    clear hm1
    have hl4 := R4.lt
    go_upto_region 5 with fail
    go_cut [8] (fun a8 wd => ∃ b8 : Nat, a8 = .pointer (some ⟨b8, 0, none⟩) ∧ MdlAt wd D base V m1 ∧ RowR wd w.heap.size #[.int .i64 0, .int .i64 0, .int .i64 0, .int .u64 0, .bool false, .int .i64 0, .int .i64 0, .int .u32 0, .int .u64 0, .int .u64 0, .int .u64 0, .int .u64 0, .int .u64 0, .int .u64 0, .slice none 0 0] ∧ MW D V V w wd ∧ Off V w.heap.size ∧ base ≤ wd.heap.size ∧ RowR wd b8 (resCs 0 (-1) (-1) 0 false msg0 none 0 0) ∧ Off V b8 ∧ w.heap.size < b8)
    case first =>
      have HQ := hideIt (And.intro H1 (And.intro R4 (And.intro Mw (And.intro o4 hbs))))
      clear H1 R4 Mw o4 hbs
      go_wp2_with fail
      refine (answer_any 0 wc).mono ?_
      rintro e w6 ⟨rfl, hb6⟩
      have hs6 := hb6.size
      have HB6 := hideIt hb6
      clear hb6
      unfold resV
      go_wp2
      go_meet
      case rel =>
        obtain ⟨H5, R5, M5, o5, hbs⟩ := HQ.out
        have b1 := one_alloc w6 (.cells (resCs 0 (-1) (-1) 0 false msg0 none 0 0) 43)
        have bb := HB6.out.trans (b1.mono hs6)
        exact ⟨w6.heap.size, rfl, H5.below bb, R5.blk (bb.block _ hl4), M5.below bb, o5, Nat.le_trans hbs bb.size, RowR.new w6 _, H5.off (by omega), by omega⟩
    case rest =>
    clear H1 R4 Mw o4 hbs hl4
    obtain ⟨b8, rfl, H1, R4, Mw, o4, hbs, R7, o7, h47⟩ := hcut
    have n7D : b8 ≠ D := by omega
    obtain ⟨s0, hown⟩ := H1.trow
    rw [← HN1.out, ev] at hown
    rw [ev] at s0
    have hr4 := row_four hown HJ1.out
    obtain ⟨g2, hp, _, c1o, _, _⟩ := hr4
    obtain ⟨tc, htc⟩ : ∃ tc, tc = t.core := ⟨_, rfl⟩
    have hgg : g2 = g := by simp at hp; exact hp.symm
    subst hgg
    have c1 : wc.cell? ⟨g2, j * 4 + 1, none⟩ = some (.int .i64 tc) := by rw [htc]; exact c1o
    have HTC := hideIt htc
    clear htc hp hown c1o
    have q1 := R7.cell (j := 1) rfl
    have q3 := R7.cell (j := 3) rfl
    have fz7 := R7.fz
    go_upto_region 6 with fail
    go_cut [] (fun wd => MdlAt wd D base V m1 ∧ RowR wd w.heap.size #[.int .i64 0, .int .i64 0, .int .i64 0, .int .u64 0, .bool false, .int .i64 0, .int .i64 0, .int .u32 0, .int .u64 0, .int .u64 0, .int .u64 0, .int .u64 0, .int .u64 0, .int .u64 0, .slice none 0 0] ∧ MW D V V w wd ∧ Off V w.heap.size ∧ base ≤ wd.heap.size ∧ RowR wd b8 (resCs 0 tc (-1) x false msg0 none 0 0))
    case first =>
      go_wp2
      go_meet
      case rel =>
        exact ⟨(H1.other n7D o7).other n7D o7, R4.blk ((far_set (show w.heap.size ≠ b8 by omega)).trans (far_set (show w.heap.size ≠ b8 by omega))), (Mw.set (by omega)).set (by omega), o4, by simpa using hbs, R7.set.set⟩
    case rest =>
    clear H1 R4 Mw o4 hbs R7 q1 q3 fz7 s0 c1
    obtain ⟨H1, R4, Mw, o4, hbs, R7⟩ := hcut
    have hl43 := R7.load rfl
    have hs43 := R4.store rfl (cs := (resCs 0 tc (-1) x false msg0 none 0 0)) rfl (resCs_one _ _ _ _ _ _ _ _ _)
    go_upto_region 7 with fail
    go_wp2_with (first | (refine wpList_load_row rfl (.tmp 8) 43 rfl ⟨b8, 0, none⟩ (.agg (resCs 0 tc (-1) x false msg0 none 0 0)) rfl hl43 ?_) | (refine wpList_store_row rfl (.tmp 6) (.tmp 35) 43 rfl ⟨w.heap.size, 0, none⟩ (.agg (resCs 0 tc (-1) x false msg0 none 0 0)) rfl rfl hs43 ?_) | go_in)
    refine bodyPost_ret (v := .agg (resCs 0 tc (-1) x false msg0 none 0 0)) (results_cell_row rfl _ _ w.heap.size 43 _ (0, 0) _ rfl R4.row Tryz.underlying43 rfl sz43) rfl ⟨V, 0, tc, x, rfl, m1, .inr ⟨j, t, HJ.out, HI.out.1, HI.out.2, rfl, HTC.out, rfl, HM1.out⟩, H1.otherRow n4D o4, (Mw.row (by omega)).fr⟩
  · have HN := hideIt hno
    clear hno
    have han := answer_r 10 wc
    go_wp2_with fail
    refine han.mono ?_
    rintro e w5 ⟨rfl, hb5⟩
    have R5 := R4.blk (hb5.block _ R4.lt)
    have hs43 := R5.store rfl (cs := (resCs 10 (-1) (-1) 0 false msg0 none 0 0)) rfl (resCs_one _ _ _ _ _ _ _ _ _)
    have HB5 := hideIt hb5
    clear han hb5
    go_wp2_with (first | (refine wpList_store_row rfl (.tmp 6) (.tmp 14) 43 rfl ⟨w.heap.size, 0, none⟩ (.agg (resCs 10 (-1) (-1) 0 false msg0 none 0 0)) rfl rfl hs43 ?_) | go_in)
    have H5 := (H1.below HB5.out).otherRow (b := w.heap.size) (cs := (resCs 10 (-1) (-1) 0 false msg0 none 0 0)) n4D o4
    have M5 := (Mw.below HB5.out).row (b := w.heap.size) (cs := (resCs 10 (-1) (-1) 0 false msg0 none 0 0)) (Nat.le_refl _)
    refine bodyPost_ret (v := .agg (resCs 10 (-1) (-1) 0 false msg0 none 0 0)) (results_cell_row rfl _ _ w.heap.size 43 _ (0, 0) _ rfl R5.row Tryz.underlying43 rfl sz43) rfl ⟨V, 10, -1, 0, m, rfl, .inl ⟨HN.out, rfl, rfl, rfl, rfl⟩, H5, M5.fr⟩
end Go.Proofs.Qxb6500877aGreatDoor
