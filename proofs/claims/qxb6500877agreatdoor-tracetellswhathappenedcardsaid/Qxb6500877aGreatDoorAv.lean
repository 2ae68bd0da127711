import Derived.Deep.CutBlock
import Derived.OwnWalk
import Derived.Maps.AppendAt
import Derived.Test.Qxb6500877aGreatDoorAu
import Derived.Test.Qxb6500877aGreatDoorZd0
import Derived.Test.Qxb6500877aGreatDoorEb
set_option linter.unusedVariables false
set_option linter.unusedSimpArgs false
namespace Go.Proofs.Qxb6500877aGreatDoor
open Go.RowKit

/-- A row that is kept by what lies above. -/
theorem own_below {w w' : World} {base e s n : Nat} {v : Value} {xs : List Value} (h : w.ownsRow base e s v n xs) (hb : Below w.heap.size w w') : w'.ownsRow base e s v n xs :=
  h.kept (row := none) ⟨hb.os, hb.tape, hb.output, hb.size, fun k hk _ => hb.block k hk⟩ (by cases v.ownBlock <;> simp)
theorem own_mono {w : World} {base base' e s n : Nat} {v : Value} {xs : List Value} (h : w.ownsRow base e s v n xs) (hb : base' ≤ base) : w.ownsRow base' e s v n xs := by
  refine ⟨h.1, ?_⟩
  rcases h.2 with q | ⟨g, cap, cur, e1, h1, r⟩
  · exact .inl q
  · exact .inr ⟨g, cap, cur, e1, Nat.le_trans hb h1, r⟩
theorem own_nil (w : World) (base e s : Nat) : w.ownsRow base e s (.slice none 0 0) 0 [] := ⟨by simp, .inl ⟨rfl, rfl⟩⟩
theorem wpList_append_own_at {P : Program} {w : World} {ops : Array Oper} {rest : List Oper} {o : Oper} {a : Act} {Q : Exit → Act → World → Prop} (hgd : o.guard = none) (s x : Operand) (t : TypeId)
    (ho : o.op = .call { callee := .builtin .append, args := #[s, x], argTypes := #[t, t] })
    (base : Nat) (e : TypeId) (i : TypeInfo) (z : Value) (size bytes : Nat) (ht : P.underlying t = some (.slice e)) (hi : P.info? e = some i) (hz : i.zero = some z)
    (hsize : i.size = size) (hby : i.bytes = bytes) (hzs : z.cells.size = size) (hsz : 0 < size)
    (v : Value) (n : Nat) (xs : List Value) (hs : a.eval s = v) (hown : w.ownsRow base e size v n xs)
    (ad : Addr) (m c : Nat) (news : List Value) (hx : a.eval x = .slice (some ad) m c) (hl : news.length = m * size) (hnews : ∀ j u, news[j]? = some u → w.cell? (ad.add j) = some u) (h1 : ∀ u ∈ news, u.oneCell' = true)
    (h63 : n + m ≤ maxLen) (hbytes : (n + m) * bytes ≤ 140737488355328) (hbase : base ≤ w.heap.size)
    (h : ∀ v' w', w'.ownsRow base e size v' (n + m) (xs ++ news) → w.grownBy w' v.ownBlock → (v'.ownBlock = v.ownBlock ∨ v'.ownBlock = some w.heap.size) → wpList P ops Q rest (a.put o.dst v') w') : wpList P ops Q (o :: rest) a w :=
  wpList_plain hgd fun _ hK => wp_append_own_at s x t ho base e i z size bytes ht hi hz hsize hby hzs hsz v n xs hs hown ad m c news hx hl hnews h1 h63 hbytes hbase fun v' w' h2 h3 h4 => hK _ _ (h v' w' h2 h3 h4)
theorem MdlAt.row2 {w w3 : World} {D base : Nat} {V : Nat → Value} {m m' : Mdl} {r : Nat} {v' : Value} (h : MdlAt w D base V m) (hr : r < 21) (hg : w.grownBy w3 (V r).ownBlock) (ho : w3.ownsRow base (mRT r) (mRS r) v' (m'.rn r) (m'.rc r)) (hb : v'.ownBlock = none ∨ v'.ownBlock = (V r).ownBlock ∨ ∃ q, v'.ownBlock = some q ∧ w.heap.size ≤ q)
    (he : ∀ q, plainO q → m'.enc q = m.enc q) (hn : ∀ s, s < 21 → s ≠ r → m'.rn s = m.rn s ∧ m'.rc s = m.rc s) :
    MdlAt (w3.setCell ⟨D, mRO r, none⟩ v') D base (upd V r v') m' ∧ MFr D V (upd V r v') w (w3.setCell ⟨D, mRO r, none⟩ v') := by
  have hlt := h.lt
  have hdl := h.dlt
  have hown : ∀ s, s < 21 → ∀ k, (V s).ownBlock = some k → base ≤ k ∧ k < w.heap.size := fun s hs => (h.own s hs).lt
  have hD3 : w3.heap[D]? = w.heap[D]? := hg.block D hdl (fun e => by have := hown r hr D e.symm; omega)
  have far : ∀ q, q ≠ D → (w3.setCell ⟨D, mRO r, none⟩ v').heap[q]? = w3.heap[q]? := fun q hq => far_set hq
  have G : w3.grownBy (w3.setCell ⟨D, mRO r, none⟩ v') (some D) := ⟨rfl, rfl, rfl, by simp, fun k _ hk => far k (fun e => hk (by rw [e]))⟩
  have c1 : ∀ o, w3.cell? ⟨D, o, none⟩ = w.cell? ⟨D, o, none⟩ := fun o => World.cell?_of_block (a := ⟨D, o, none⟩) hD3
  have nD : ∀ s, s < 21 → (V s).ownBlock ≠ some D := fun s hs e => by have := hown s hs D e; omega
  have nD' : v'.ownBlock ≠ some D := fun e => by
    rcases hb with q | q | ⟨q, e1, e2⟩
    · rw [q] at e; cases e
    · exact nD r hr (q.symm.trans e)
    · rw [e1] at e
      have : q = D := Option.some.inj e
      omega
  have nV : ∀ s, s < 21 → s ≠ r → (V s).ownBlock = none ∨ (V s).ownBlock ≠ v'.ownBlock := fun s hs hsr => by
    rcases hb with q | q | ⟨q, e1, e2⟩
    · rw [q]
      cases (V s).ownBlock with
      | none => exact .inl rfl
      | some z => exact .inr (by simp)
    · rw [q]; exact h.dis s r hs hr hsr
    · rw [e1]
      refine .inr (fun e => ?_)
      have := hown s hs q e
      omega
  refine ⟨⟨fun q hq => ?_, fun s hs => ?_, fun s hs => ?_, fun s q hs hq hsq => ?_, fun o => ?_, hlt⟩, ⟨hg.os, hg.tape, hg.output, by simpa using hg.size, fun k hk hkD hkV => (far k hkD).trans (hg.block k hk (fun e => hkV r hr e.symm)), fun s k hs hk => ?_⟩⟩
  · rw [World.cell?_setCell_other _ _ _ _ (fun z => mRO_plain hr hq (by simpa using (Addr.mk.inj z).2.1)), c1, he q hq]
    exact h.cell q hq
  · by_cases e : s = r
    · subst e; rw [upd_same]; exact World.cell?_setCell_same _ _ _ ((c1 _).trans (h.sl s hs))
    · rw [upd_other _ _ e, World.cell?_setCell_other _ _ _ _ (fun z => mRO_ne hr hs (fun q => e q.symm) (by simpa using (Addr.mk.inj z).2.1)), c1]
      exact h.sl s hs
  · by_cases e : s = r
    · subst e
      rw [upd_same]
      exact ho.kept G (.inr nD')
    · rw [upd_other _ _ e, (hn s hs e).1, (hn s hs e).2]
      refine ((h.own s hs).kept hg ?_).kept G (.inr (nD s hs))
      exact h.dis s r hs hr e
  · by_cases e1 : s = r
    · subst e1
      rw [upd_same, upd_other _ _ (fun q => hsq q.symm)]
      rcases nV q hq (fun z => hsq z.symm) with z | z
      · by_cases e : v'.ownBlock = none
        · exact .inl e
        · exact .inr (fun y => e (y.trans z))
      · exact .inr (fun y => z y.symm)
    · rw [upd_other _ _ e1]
      by_cases e2 : q = r
      · subst e2; rw [upd_same]; exact nV s hs e1
      · rw [upd_other _ _ e2]; exact h.dis s q hs hq hsq
  · rw [World.frozen?_setCell, World.frozen?_of_block (a := ⟨D, o, none⟩) hD3]
    exact h.fz o
  · by_cases e : s = r
    · subst e
      rw [upd_same] at hk
      rcases hb with q | q | ⟨q, e1, e2⟩
      · rw [q] at hk; cases hk
      · exact .inl ⟨s, hs, q.symm.trans hk⟩
      · rw [e1] at hk
        have : q = k := Option.some.inj hk
        exact .inr (by omega)
    · rw [upd_other _ _ e] at hk
      exact .inl ⟨s, hs, hk⟩
theorem MdlAt.newTm2 {w w3 : World} {D base : Nat} {V : Nat → Value} {m : Mdl} {v' : Value} {l : List TmR} (h : MdlAt w D base V m) (hg : w.grownBy w3 (V 20).ownBlock) (ho : w3.ownsRow base 84 4 v' l.length (tmCells l)) (hb : v'.ownBlock = none ∨ v'.ownBlock = (V 20).ownBlock ∨ ∃ q, v'.ownBlock = some q ∧ w.heap.size ≤ q) :
    MdlAt (w3.setCell ⟨D, 85, none⟩ v') D base (upd V 20 v') (m.setTm l) ∧ MFr D V (upd V 20 v') w (w3.setCell ⟨D, 85, none⟩ v') := by
  refine h.row2 (r := 20) (by omega) hg ho hb (fun q _ => rfl) (fun s hs hne => ?_)
  unfold Mdl.rn Mdl.rc
  by_cases q : s < 4
  · rw [if_pos q, if_pos q, if_pos q, if_pos q]
    exact ⟨rfl, rfl⟩
  · have q2 : s < 20 := by omega
    rw [if_neg q, if_neg q, if_neg q, if_neg q, if_pos q2, if_pos q2, if_pos q2, if_pos q2]
    exact ⟨rfl, rfl⟩
theorem MdlAt.low {n : Nat} {w w' : World} {D base : Nat} {V : Nat → Value} {m : Mdl} (h : MdlAt w D base V m) (hD : D < n) (hV : ∀ r, r < 21 → ∀ k, (V r).ownBlock = some k → k < n) (hb : Below n w w') : MdlAt w' D base V m :=
  h.keep hb.size (fun k hk hq => hb.block k (by rcases hq with rfl | ⟨r, hr, e⟩; exact hD; exact hV r hr k e))
theorem MW.low {n D : Nat} {V V' : Nat → Value} {w w1 w2 : World} (h : MW D V V' w w1) (hn : w.heap.size ≤ n) (k : Below n w1 w2) : MW D V V' w w2 :=
  ⟨k.os.trans h.os, k.tape.trans h.tape, k.output.trans h.output, Nat.le_trans h.size k.size, fun q hq h1 h2 => (k.block q (by omega)).trans (h.block q hq h1 h2), h.rows⟩
def dueT (l : List TmR) (n : Int) (j : Nat) : List TmR := (l.take j).filter (fun t => decide (t.dl ≤ n))
def keepT (l : List TmR) (n : Int) (j : Nat) : List TmR := (l.take j).filter (fun t => !decide (t.dl ≤ n))
theorem take_next {α : Type} {l : List α} {j : Nat} {t : α} (h : l[j]? = some t) : l.take (j + 1) = l.take j ++ [t] := by rw [List.take_add_one, h]; rfl
theorem due_yes {l : List TmR} {n : Int} {j : Nat} {t : TmR} (h : l[j]? = some t) (hd : t.dl ≤ n) : dueT l n (j + 1) = dueT l n j ++ [t] ∧ keepT l n (j + 1) = keepT l n j := by
  unfold dueT keepT
  rw [take_next h, List.filter_append, List.filter_append]
  simp [hd]
theorem due_no {l : List TmR} {n : Int} {j : Nat} {t : TmR} (h : l[j]? = some t) (hd : ¬ t.dl ≤ n) : dueT l n (j + 1) = dueT l n j ∧ keepT l n (j + 1) = keepT l n j ++ [t] := by
  unfold dueT keepT
  rw [take_next h, List.filter_append, List.filter_append]
  simp [hd]
theorem dueT_len (l : List TmR) (n : Int) (j : Nat) : (dueT l n j).length ≤ l.length := Nat.le_trans (List.length_filter_le _ _) (by rw [List.length_take]; omega)
theorem keepT_len (l : List TmR) (n : Int) (j : Nat) : (keepT l n j).length ≤ l.length := Nat.le_trans (List.length_filter_le _ _) (by rw [List.length_take]; omega)
theorem tm_snoc {w : World} {base : Nat} {v : Value} {l : List TmR} {t : TmR} (h : w.ownsRow base 84 4 v (l.length + 1) (tmCells l ++ [.int .u64 t.id, .int .i64 t.core, .int .u64 t.dl, .int .u64 t.ck])) : w.ownsRow base 84 4 v (l ++ [t]).length (tmCells (l ++ [t])) := by
  rw [tmCells_snoc, List.length_append]; exact h
theorem dis_new {a b c : Option Nat} {n : Nat} (h : a = none ∨ a ≠ b) (hb : ∀ k, b = some k → k < n) (hc : c = a ∨ ∃ q, c = some q ∧ n ≤ q) : c = none ∨ c ≠ b := by
  rcases hc with e | ⟨q, e, hq⟩
  · rw [e]; exact h
  · refine .inr (fun z => ?_)
    have := hb q (z.symm.trans e)
    omega
theorem dis_flip {a b : Option Nat} (h : a = none ∨ a ≠ b) : b = none ∨ b ≠ a := by
  rcases h with e | e
  · rw [e]
    cases b with
    | none => exact .inl rfl
    | some z => exact .inr (by simp)
  · exact .inr (fun z => e z.symm)
theorem dis_low {a b : Option Nat} {n : Nat} (ha : ∀ k, a = some k → k < n) (hb : ∀ k, b = some k → n ≤ k) : a = none ∨ a ≠ b := by
  cases h : a with
  | none => exact .inl rfl
  | some k =>
    refine .inr (fun e => ?_)
    have h1 := ha k h
    have h2 := hb k e.symm
    omega
theorem incF_take {m : Mdl} {l : List TmR} {j : Nat} {t : TmR} (h : l[j]? = some t) : incF m (l.take (j + 1)) = (incF m (l.take j)).inc (t.core.toNat * 7 + 6) := by
  rw [take_next h]
  simp [incF]
theorem max_if (a b : Int) : (if b > a then b else a) = max a b := by
  rw [Int.max_def]
  split <;> split <;> omega
theorem fir_one (e : FiredS) : ∀ u ∈ [Value.int .u64 e.id, .int .i64 e.core, .int .u64 e.dl, .int .u64 e.ck, .int .u64 e.t], u.oneCell' = true := by
  intro u hu
  simp at hu
  rcases hu with rfl | rfl | rfl | rfl | rfl <;> rfl
theorem fir_snoc {w : World} {base : Nat} {v : Value} {l : List FiredS} {x : FiredS} (h : w.ownsRow base 86 5 v (l.length + 1) (firedCells l ++ [.int .u64 x.id, .int .i64 x.core, .int .u64 x.dl, .int .u64 x.ck, .int .u64 x.t])) : FiredAt w base v (l ++ [x]) := by
  unfold FiredAt
  rw [firedCells_snoc, List.length_append]; exact h
set_option maxRecDepth 20000 in
set_option maxHeartbeats 16000000 in
theorem mticks_any {w : World} {D base : Nat} {V : Nat → Value} {m : Mdl} {n : Int} (H : MdlAt w D base V m) (hbw : base ≤ w.heap.size) (hl : m.tm.length ≤ 900) (hco : ∀ t ∈ m.tm, 0 ≤ t.core ∧ t.core < 4) (hn : 0 ≤ n ∧ n < 18446744073709551616) (hnow : 0 ≤ m.now ∧ m.now < 18446744073709551616) :
    Calls Tryz.prog 76 #[.pointer (some ⟨D, 0, none⟩), .int .u64 n] w fun e w' => ∃ V' p a c fs m', e = .returned (.agg (resCs 0 (-1) (-1) 0 false msg0 p a c)) ∧ FrAt w' w.heap.size (.slice p a c) fs ∧ TickM m n fs m' ∧ MdlAt w' D base V' m' ∧ MFr D V V' w w' := by
  obtain ⟨i0_, hi_, hz0, hz1, hz2⟩ := info_parts info84
  obtain ⟨j0_, ji_, jz0, jz1, jz2⟩ := info_parts info86
  have hDl := H.dlt
  have n4D : w.heap.size ≠ D := by omega
  have hF : MdlAt (World.alloc w (.cells #[.int .i64 0, .int .i64 0, .int .i64 0, .int .u64 0, .bool false, .int .i64 0, .int .i64 0, .int .u32 0, .int .u64 0, .int .u64 0, .int .u64 0, .int .u64 0, .int .u64 0, .int .u64 0, .slice none 0 0] 43)) D base V m ∧ RowR (World.alloc w (.cells #[.int .i64 0, .int .i64 0, .int .i64 0, .int .u64 0, .bool false, .int .i64 0, .int .i64 0, .int .u32 0, .int .u64 0, .int .u64 0, .int .u64 0, .int .u64 0, .int .u64 0, .int .u64 0, .slice none 0 0] 43)) w.heap.size #[.int .i64 0, .int .i64 0, .int .i64 0, .int .u64 0, .bool false, .int .i64 0, .int .i64 0, .int .u32 0, .int .u64 0, .int .u64 0, .int .u64 0, .int .u64 0, .int .u64 0, .int .u64 0, .slice none 0 0] ∧ MW D V V w (World.alloc w (.cells #[.int .i64 0, .int .i64 0, .int .i64 0, .int .u64 0, .bool false, .int .i64 0, .int .i64 0, .int .u32 0, .int .u64 0, .int .u64 0, .int .u64 0, .int .u64 0, .int .u64 0, .int .u64 0, .slice none 0 0] 43)) ∧ Off V w.heap.size ∧ base ≤ (World.alloc w (.cells #[.int .i64 0, .int .i64 0, .int .i64 0, .int .u64 0, .bool false, .int .i64 0, .int .i64 0, .int .u32 0, .int .u64 0, .int .u64 0, .int .u64 0, .int .u64 0, .int .u64 0, .int .u64 0, .slice none 0 0] 43)).heap.size := by
    have bb := one_alloc w (.cells #[.int .i64 0, .int .i64 0, .int .i64 0, .int .u64 0, .bool false, .int .i64 0, .int .i64 0, .int .u32 0, .int .u64 0, .int .u64 0, .int .u64 0, .int .u64 0, .int .u64 0, .int .u64 0, .slice none 0 0] 43)
    exact ⟨H.below bb, RowR.new _ _, ((MFr.refl D V w).below bb).mw, H.off (Nat.le_refl _), Nat.le_trans hbw bb.size⟩
  go_enter Tryz.func76, Tryz.ntmps76
  go_upto_region 1 with fail
  generalize hW0 : World.alloc w (.cells #[.int .i64 0, .int .i64 0, .int .i64 0, .int .u64 0, .bool false, .int .i64 0, .int .i64 0, .int .u32 0, .int .u64 0, .int .u64 0, .int .u64 0, .int .u64 0, .int .u64 0, .int .u64 0, .slice none 0 0] 43) = wc at *
  clear hW0
  obtain ⟨H1, R4, Mw, o4, hbs⟩ := hF
  have hl4 := R4.lt
  go_upto_region 1 with fail
  go_cut [5] (fun a5 wd => ∃ b5 : Nat, a5 = .pointer (some ⟨b5, 0, none⟩) ∧ MdlAt wd D base V m ∧ RowR wd w.heap.size #[.int .i64 0, .int .i64 0, .int .i64 0, .int .u64 0, .bool false, .int .i64 0, .int .i64 0, .int .u32 0, .int .u64 0, .int .u64 0, .int .u64 0, .int .u64 0, .int .u64 0, .int .u64 0, .slice none 0 0] ∧ MW D V V w wd ∧ Off V w.heap.size ∧ base ≤ wd.heap.size ∧ RowR wd b5 (resCs 0 (-1) (-1) 0 false msg0 none 0 0) ∧ Off V b5 ∧ w.heap.size < b5)
  case first =>
    have HQ := hideIt (And.intro H1 (And.intro R4 (And.intro Mw (And.intro o4 hbs))))
    clear H1 R4 Mw o4 hbs
    go_wp2_with fail
    refine (answer_any 0 wc).mono ?_
    rintro e w6 ⟨rfl, hb6⟩
    have hs6 := hb6.size
    have HB6 := hideIt hb6
    clear hb6
    unfold resV
    go_wp2
    go_meet
    case rel =>
      obtain ⟨H5, R5, M5, o5, hbs⟩ := HQ.out
      have b1 := one_alloc w6 (.cells (resCs 0 (-1) (-1) 0 false msg0 none 0 0) 43)
      have bb := HB6.out.trans (b1.mono hs6)
      exact ⟨w6.heap.size, rfl, H5.below bb, R5.blk (bb.block _ hl4), M5.below bb, o5, Nat.le_trans hbs bb.size, RowR.new w6 _, H5.off (by omega), by omega⟩
  case rest =>
  clear H1 R4 Mw o4 hbs hl4
  obtain ⟨b5, rfl, H1, R4, Mw, o4, hbs, R7, o7, h47⟩ := hcut
  have n7D : b5 ≠ D := by omega
  by_cases h0 : n = 0
  · have e0 : (n == 0) = true := by rw [h0]; rfl
    have HN0 := hideIt h0
    clear h0
    have hl43 := R7.load rfl
    have hs43 := R4.store rfl (cs := (resCs 0 (-1) (-1) 0 false msg0 none 0 0)) rfl (resCs_one _ _ _ _ _ _ _ _ _)
    go_upto_region 3 with fail
    go_wp2_with (first | (refine wpList_load_row rfl (.tmp 5) 43 rfl ⟨b5, 0, none⟩ (.agg (resCs 0 (-1) (-1) 0 false msg0 none 0 0)) rfl hl43 ?_) | (refine wpList_store_row rfl (.tmp 4) (.tmp 16) 43 rfl ⟨w.heap.size, 0, none⟩ (.agg (resCs 0 (-1) (-1) 0 false msg0 none 0 0)) rfl rfl hs43 ?_) | go_in)
    refine bodyPost_ret (v := .agg (resCs 0 (-1) (-1) 0 false msg0 none 0 0)) (results_cell_row rfl _ _ w.heap.size 43 _ (0, 0) _ rfl R4.row Tryz.underlying43 rfl sz43) rfl ⟨V, none, 0, 0, [], m, rfl, .inl ⟨rfl, rfl⟩, .inl ⟨HN0.out, rfl, rfl⟩, H1.otherRow n4D o4, (Mw.row (by omega)).fr⟩
  have e0 : (n == 0) = false := beq_eq_false_iff_ne.2 h0
  have HN0 := hideIt h0
  clear h0
  have x0 := H1.nowc
  obtain ⟨nw, hnw⟩ : ∃ nw, nw = m.now := ⟨_, rfl⟩
  rw [← hnw] at x0 hnow
  have HNW := hideIt hnw
  clear hnw
  have hp1 := fun w => plus_any (b := 1) hnow (by omega) w
  have hp2 := fun w => plus_any hnow hn w
  obtain ⟨ft, hft⟩ : ∃ ft, ft = plusI nw 1 := ⟨_, rfl⟩
  obtain ⟨n2, hn2⟩ : ∃ n2, n2 = plusI nw n := ⟨_, rfl⟩
  rw [← hft] at hp1
  rw [← hn2] at hp2
  have HFT := hideIt hft
  have HN2 := hideIt hn2
  clear hft hn2 hn hnow
  go_wp2_with fail
  refine (hp1 _).mono ?_
  rintro e wc ⟨rfl, rfl⟩
  clear hp1
  go_upto_region 5 with fail
  have fz := H1.fz
  go_cut [] (fun wd => MdlAt wd D base V (m.setNow n2) ∧ RowR wd w.heap.size #[.int .i64 0, .int .i64 0, .int .i64 0, .int .u64 0, .bool false, .int .i64 0, .int .i64 0, .int .u32 0, .int .u64 0, .int .u64 0, .int .u64 0, .int .u64 0, .int .u64 0, .int .u64 0, .slice none 0 0] ∧ MW D V V w wd ∧ Off V w.heap.size ∧ base ≤ wd.heap.size ∧ RowR wd b5 (resCs 0 (-1) (-1) 0 false msg0 none 0 0))
  case first =>
    obtain ⟨H8, F8⟩ := H1.putNow n2
    go_wp2_with fail
    refine (hp2 _).mono ?_
    rintro e wc ⟨rfl, rfl⟩
    go_wp2
    go_meet
    case rel => exact ⟨H8, R4.blk (far_set n4D), Mw.then F8, o4, Nat.le_trans hbs F8.size, R7.blk (far_set n7D)⟩
  case rest =>
  clear H1 R4 Mw o4 hbs R7 x0 fz hp2
  obtain ⟨H1, R4, Mw, o4, hbs, R7⟩ := hcut
  obtain ⟨m1, hm1⟩ : ∃ m1, m1 = m.setNow n2 := ⟨_, rfl⟩
  rw [← hm1] at H1
  obtain ⟨l, hll⟩ : ∃ l, l = m1.tm := ⟨_, rfl⟩
  have hx := H1.trow
  rw [← hll] at hx
  obtain ⟨s0, hown⟩ := hx
  have hlm : l = m.tm := by rw [hll, hm1]; rfl
  have HCO : Hid (∀ t ∈ l, 0 ≤ t.core ∧ t.core < 4) := hideIt (by rw [hlm]; exact hco)
  have hl9 : l.length ≤ 900 := by rw [hlm]; exact hl
  have x0 : wc.cell? ⟨D, 0, none⟩ = some (.int .u64 n2) := by have := H1.nowc; rw [hm1] at this; exact this
  have HM1 := hideIt hm1
  have HLM := hideIt hlm
  have HLL := hideIt hll
  clear hm1 hlm hll hco hl
  obtain ⟨pv, cap, ev⟩ := own_shape hown
  rw [ev] at s0 hown
  obtain ⟨nn, hnn⟩ : ∃ nn, nn = l.length := ⟨_, rfl⟩
  rw [← hnn] at s0 hown ev hl9
  have HNN := hideIt hnn
  clear hnn
  have HI := hideIt hown
  clear hown
  obtain ⟨N0, hN0⟩ : ∃ N0, N0 = wc.heap.size := ⟨_, rfl⟩
  have hNa : N0 ≤ wc.heap.size := by omega
  have hNb : wc.heap.size ≤ N0 := by omega
  clear hN0
  have VB : ∀ r, r < 21 → ∀ k, (V r).ownBlock = some k → k < N0 := fun r hr k e => by have := ((H1.own r hr).lt k e).2; omega
  have hDw : D < N0 := by have := H1.dlt; omega
  have h5w : b5 < N0 := by have := R7.lt; omega
  have h4w : w.heap.size < N0 := by have := R4.lt; omega
  have HQ := hideIt (And.intro H1 (And.intro R4 (And.intro Mw (And.intro o4 (And.intro hbs (And.intro R7 VB))))))
  clear H1 R4 Mw o4 hbs R7 VB
  go_wp2_with fail
  go_loopg [7, 8, 36] nn (fun g v7 v8 v36 wr => ∃ j : Nat, j + g = nn ∧ v36 = .int .i64 (j : Int) ∧ Hid (Below N0 wc wr) ∧ Hid (wr.ownsRow N0 84 4 v7 (dueT l n2 j).length (tmCells (dueT l n2 j))) ∧ Hid (wr.ownsRow N0 84 4 v8 (keepT l n2 j).length (tmCells (keepT l n2 j))) ∧ Hid (v7.ownBlock = none ∨ v7.ownBlock ≠ v8.ownBlock))
  case atStart => exact ⟨0, by omega, rfl, hideIt (Below.refl _ _), hideIt (by simp [dueT]; exact own_nil _ _ _ _), hideIt (by simp [keepT]; exact own_nil _ _ _ _), hideIt (.inl rfl)⟩
  case round =>
    obtain ⟨j, hjg, rfl, HB, HDu, HKe, HDi⟩ := hrel
    by_cases hj : j < nn
    · have j0 : (0 : Int) ≤ j := by omega
      have j1 : (j : Int) < (nn : Int) := by omega
      have hbx : ∃ t, l[j]? = some t := ⟨l[j]'(by rw [← HNN.out]; exact hj), List.getElem?_eq_getElem _⟩
      obtain ⟨t, htj⟩ := hbx
      obtain ⟨g, hp, c0, c1, c2, c3⟩ := row_four HI.out htj
      have hg : g < wc.heap.size := World.block_lt_of_cell? _ _ c0
      have hgb := HB.out.block g (by omega)
      have c0 := (World.cell?_of_block (a := ⟨g, j * 4, none⟩) hgb).trans c0
      have c1 := (World.cell?_of_block (a := ⟨g, j * 4 + 1, none⟩) hgb).trans c1
      have c2 := (World.cell?_of_block (a := ⟨g, j * 4 + 2, none⟩) hgb).trans c2
      have c3 := (World.cell?_of_block (a := ⟨g, j * 4 + 3, none⟩) hgb).trans c3
      have x1 := (World.cell?_of_block (a := ⟨D, 0, none⟩) (HB.out.block D hDw)).trans x0
      have hz : N0 ≤ wr.heap.size := by have := HB.out.size; omega
      have hdl := dueT_len l n2 j
      have hkl := keepT_len l n2 j
      rw [← HNN.out] at hdl hkl
      clear hgb
      subst hp
      have HT := hideIt htj
      clear htj
      have b1 := one_alloc wr (.cells #[.int .u64 t.id, .int .i64 t.core, .int .u64 t.dl, .int .u64 t.ck] 84)
      have F10 := FourR.new wr t.id t.core t.dl t.ck 84
      have hza : N0 ≤ (wr.alloc (.cells #[.int .u64 t.id, .int .i64 t.core, .int .u64 t.dl, .int .u64 t.ck] 84)).heap.size := by simp; omega
      have x1 := (World.cell?_of_block (a := ⟨D, 0, none⟩) (b1.block D (by omega))).trans x1
      go_upto_region 10 with fail
      generalize hWa : World.alloc wr (.cells #[.int .u64 t.id, .int .i64 t.core, .int .u64 t.dl, .int .u64 t.ck] 84) = wa at *
      clear hWa c0 c1 c2 c3
      have HB1 := hideIt b1
      clear b1
      have OD := own_below HDu.out HB1.out
      have OK := own_below HKe.out HB1.out
      obtain ⟨u0, u1, u2, u3⟩ := F10
      by_cases hd : t.dl ≤ n2
      · have HD := hideIt hd
        go_region_held3 (fun w' => w'.cell? ⟨wr.heap.size, 2, none⟩ = some (.int .u64 t.dl) ∧ w'.cell? ⟨D, 0, none⟩ = some (.int .u64 n2)) (exact ⟨u2, x1⟩) (fail)
        go_wp2_with (first | (at_builtin; refine wpList_append_own_at rfl (.tmp 47) (.tmp 49) 59 rfl N0 84 i0_ (.agg #[.int .u64 0, .int .i64 0, .int .u64 0, .int .u64 0]) 4 32 Tryz.underlying59 hi_ hz0 hz1 hz2 rfl (by decide) u7 _ _ rfl ((own_below OD (below_dr (Below.refl _ _))).alloc _) ⟨wa.heap.size, 0, none⟩ 1 1 [.int .u64 t.id, .int .i64 t.core, .int .u64 t.dl, .int .u64 t.ck] rfl rfl (cell_four_new _ _ _ _ _ _) (four_one _ _ _ _) (by unfold maxLen; omega) (by omega) (by simp; omega) ?_; intro v' w3 hown' hgrow hblk; have HG := hideIt (And.intro hown' (And.intro hgrow hblk)); clear hown' hgrow hblk) | go_in)
        go_roundg (nn - (j + 1))
        case measure => omega
        case rel =>
          obtain ⟨ho, hg, hk⟩ := HG.out
          have bd := below_dr (one_alloc wa (.cells #[.int .u64 t.id, .int .i64 t.core, .int .u64 t.dl, .int .u64 t.ck] 84))
          have hg' := grown_da hg bd
          have hk' := blk_da hk bd
          have hr : ∀ k, (u7).ownBlock = some k → N0 ≤ k := fun k e => (OD.lt k e).1
          refine ⟨j + 1, by omega, by go_num, hideIt (below_grown (HB.out.trans (HB1.out.mono hz)) hg' hza hr), hideIt ?_, hideIt ?_, hideIt ?_⟩
          · rw [(due_yes HT.out HD.out).1]; exact tm_snoc ho
          · rw [(due_yes HT.out HD.out).2]; exact OK.kept hg' (dis_flip HDi.out)
          · exact dis_new HDi.out (fun k e => (OK.lt k e).2) hk'
      · have HD := hideIt hd
        go_region_held3 (fun w' => w'.cell? ⟨wr.heap.size, 2, none⟩ = some (.int .u64 t.dl) ∧ w'.cell? ⟨D, 0, none⟩ = some (.int .u64 n2)) (exact ⟨u2, x1⟩) (fail)
        go_wp2_with (first | (at_builtin; refine wpList_append_own_at rfl (.tmp 51) (.tmp 53) 59 rfl N0 84 i0_ (.agg #[.int .u64 0, .int .i64 0, .int .u64 0, .int .u64 0]) 4 32 Tryz.underlying59 hi_ hz0 hz1 hz2 rfl (by decide) u8 _ _ rfl ((own_below OK (below_dr (Below.refl _ _))).alloc _) ⟨wa.heap.size, 0, none⟩ 1 1 [.int .u64 t.id, .int .i64 t.core, .int .u64 t.dl, .int .u64 t.ck] rfl rfl (cell_four_new _ _ _ _ _ _) (four_one _ _ _ _) (by unfold maxLen; omega) (by omega) (by simp; omega) ?_; intro v' w3 hown' hgrow hblk; have HG := hideIt (And.intro hown' (And.intro hgrow hblk)); clear hown' hgrow hblk) | go_in)
        go_roundg (nn - (j + 1))
        case measure => omega
        case rel =>
          obtain ⟨ho, hg, hk⟩ := HG.out
          have bd := below_dr (one_alloc wa (.cells #[.int .u64 t.id, .int .i64 t.core, .int .u64 t.dl, .int .u64 t.ck] 84))
          have hg' := grown_da hg bd
          have hk' := blk_da hk bd
          have hr : ∀ k, (u8).ownBlock = some k → N0 ≤ k := fun k e => (OK.lt k e).1
          refine ⟨j + 1, by omega, by go_num, hideIt (below_grown (HB.out.trans (HB1.out.mono hz)) hg' hza hr), hideIt ?_, hideIt ?_, hideIt ?_⟩
          · rw [(due_no HT.out (by have := HD.out; omega)).1]; exact OD.kept hg' HDi.out
          · rw [(due_no HT.out (by have := HD.out; omega)).2]; exact tm_snoc ho
          · exact dis_flip (dis_new (dis_flip HDi.out) (fun k e => (OD.lt k e).2) hk')
    · have ej : j = nn := by omega
      subst ej
      have ed : dueT l n2 j = l.filter (fun t => decide (t.dl ≤ n2)) := by rw [dueT, HNN.out, List.take_length]
      have ek : keepT l n2 j = l.filter (fun t => !decide (t.dl ≤ n2)) := by rw [keepT, HNN.out, List.take_length]
      have OD := HDu.out
      have OK := HKe.out
      rw [ed] at OD
      rw [ek] at OK
      have hdlen : (l.filter (fun t => decide (t.dl ≤ n2))).length ≤ 900 := Nat.le_trans (List.length_filter_le _ _) (by rw [← HNN.out]; exact hl9)
      obtain ⟨du, hdu⟩ : ∃ du, du = l.filter (fun t => decide (t.dl ≤ n2)) := ⟨_, rfl⟩
      obtain ⟨ke, hke⟩ : ∃ ke, ke = l.filter (fun t => !decide (t.dl ≤ n2)) := ⟨_, rfl⟩
      rw [← hdu] at OD hdlen
      rw [← hke] at OK
      have HED := hideIt hdu
      have HEK := hideIt hke
      have HOD := hideIt OD
      have HOK := hideIt OK
      clear OD OK hdu hke ed ek HDu HKe
      obtain ⟨pd, capd, ed⟩ := own_shape HOD.out
      subst ed
      obtain ⟨pk, capk, ek⟩ := own_shape HOK.out
      subst ek
      obtain ⟨H0, R0, M0, o0, b0, Rb, VB⟩ := HQ.out
      have fz : ∀ o, wr.frozen? ⟨D, o, none⟩ = false := fun o => (World.frozen?_of_block (a := ⟨D, o, none⟩) (HB.out.block D hDw)).trans (H0.fz o)
      have sD := (World.cell?_of_block (a := ⟨D, 85, none⟩) (HB.out.block D hDw)).trans s0
      clear H0 R0 M0 o0 b0 Rb VB
      go_upto_region 14 with fail
      go_cut [] (fun wd => ∃ V2, MdlAt wd D base V2 (m1.setTm ke) ∧ RowR wd w.heap.size #[.int .i64 0, .int .i64 0, .int .i64 0, .int .u64 0, .bool false, .int .i64 0, .int .i64 0, .int .u32 0, .int .u64 0, .int .u64 0, .int .u64 0, .int .u64 0, .int .u64 0, .int .u64 0, .slice none 0 0] ∧ MW D V V2 w wd ∧ Off V2 w.heap.size ∧ base ≤ wd.heap.size ∧ RowR wd b5 (resCs 0 (-1) (-1) 0 false msg0 none 0 0) ∧ Off V2 b5 ∧ wd.ownsRow N0 84 4 (.slice pd du.length capd) du.length (tmCells du) ∧ N0 ≤ wd.heap.size ∧ ∀ r, r < 21 → ∀ k, (V2 r).ownBlock = some k → (Value.slice pd du.length capd).ownBlock ≠ some k)
      case first =>
        go_wp2
        go_meet
        case rel =>
          obtain ⟨H0, R0, M0, o0, b0, Rb, VB⟩ := HQ.out
          have hgr : wc.grownBy wr (V 20).ownBlock := ⟨HB.out.os, HB.out.tape, HB.out.output, HB.out.size, fun k hk _ => HB.out.block k (by omega)⟩
          have hnb : (Value.slice pk ke.length capk).ownBlock = none ∨ (Value.slice pk ke.length capk).ownBlock = (V 20).ownBlock ∨ ∃ q, (Value.slice pk ke.length capk).ownBlock = some q ∧ wc.heap.size ≤ q := by
            cases h8 : (Value.slice pk ke.length capk).ownBlock with
            | none => exact .inl rfl
            | some q => exact .inr (.inr ⟨q, rfl, by have := (HOK.out.lt q h8).1; omega⟩)
          obtain ⟨H8, F8⟩ := H0.newTm2 (w3 := wr) (l := ke) hgr (own_mono HOK.out (by omega)) hnb
          have ob4 := F8.off o0 R0.lt
          have ob5 := F8.off o7 Rb.lt
          have G : wr.grownBy (wr.setCell ⟨D, 85, none⟩ (Value.slice pk ke.length capk)) (some D) := ⟨rfl, rfl, rfl, by simp, fun k _ hk => far_set (fun e => hk (by rw [e]))⟩
          refine ⟨_, H8, R0.blk (F8.keep o0 R0.lt n4D), M0.then F8, ob4, Nat.le_trans b0 F8.size, Rb.blk (F8.keep o7 Rb.lt n7D), ob5, HOD.out.kept G (.inr (fun e => by have := (HOD.out.lt D e).1; omega)), by have := F8.size; omega, fun r hr k e e' => ?_⟩
          by_cases q : r = 20
          · subst q
            rw [upd_same] at e
            rcases HDi.out with z | z
            · rw [z] at e'; cases e'
            · exact z (e'.trans e.symm)
          · rw [upd_other _ _ q] at e
            have h1 := VB r hr k e
            have h2 := (HOD.out.lt k e').1
            omega
      case rest =>
      clear fz sD x0 s0
      obtain ⟨V2, H1, R4, Mw, o4, hbs, R7, o7, OD, hws, DV⟩ := hcut
      obtain ⟨m2, hm2⟩ : ∃ m2, m2 = m1.setTm ke := ⟨_, rfl⟩
      rw [← hm2] at H1
      have HM2 := hideIt hm2
      clear hm2
      have hso := sortTm_any OD rfl (by omega)
      have HQ2 := hideIt (And.intro H1 (And.intro R4 (And.intro Mw (And.intro hbs (And.intro R7 (And.intro OD (And.intro hws DV)))))))
      clear H1 R4 Mw hbs R7 OD hws DV HQ HI
      go_upto_region 15 with fail
      go_cut [] (fun wd => ∃ due : List TmR, Hid (due.Perm du ∧ TmAsc due) ∧ MdlAt wd D base V2 m2 ∧ RowR wd w.heap.size #[.int .i64 0, .int .i64 0, .int .i64 0, .int .u64 0, .bool false, .int .i64 0, .int .i64 0, .int .u32 0, .int .u64 0, .int .u64 0, .int .u64 0, .int .u64 0, .int .u64 0, .int .u64 0, .slice none 0 0] ∧ MW D V V2 w wd ∧ RowR wd b5 (resCs 0 (-1) (-1) 0 false msg0 none 0 0) ∧ base ≤ wd.heap.size ∧ wd.ownsRow N0 84 4 (.slice pd du.length capd) du.length (tmCells due) ∧ N0 ≤ wd.heap.size)
      case first =>
        go_wp2_with fail
        refine hso.mono ?_
        rintro e w5 ⟨rfl, due, hp, ha, ho, hg⟩
        have HG := hideIt (And.intro hp (And.intro ha (And.intro ho hg)))
        clear hp ha ho hg
        go_wp2
        go_meet
        case rel =>
          obtain ⟨hp, ha, ho, hg⟩ := HG.out
          obtain ⟨H1, R4, Mw, hbs, R7, OD, hws, DV⟩ := HQ2.out
          have low : ∀ q, (Value.slice pd du.length capd  ).ownBlock = some q → N0 ≤ q := fun q e => (OD.lt q e).1
          refine ⟨due, hideIt ⟨hp, ha⟩, H1.keep hg.size (fun k hk hq => hg.block k hk (fun e => ?_)), R4.blk (hg.block _ R4.lt (fun e => by have := low _ e.symm; omega)), Mw.low (n := w.heap.size) (Nat.le_refl _) ⟨hg.os, hg.tape, hg.output, hg.size, fun k hk => hg.block k (by have := R4.lt; omega) (fun e => by have := low _ e.symm; omega)⟩, R7.blk (hg.block _ R7.lt (fun e => by have := low _ e.symm; omega)), Nat.le_trans hbs hg.size, ho, Nat.le_trans hws hg.size⟩
          rcases hq with rfl | ⟨r, hr, e2⟩
          · have := low _ e.symm; omega
          · exact DV r hr k e2 e.symm
      case rest =>
      clear hso HQ2 HOD HOK HDi HB
      obtain ⟨due, HPA, H1, R4, Mw, R7, hbs, OD, hNw⟩ := hcut
      have hin : ∀ t ∈ due, 0 ≤ t.core ∧ t.core < 4 := fun t ht => HCO.out t (by have := HPA.out.1.mem_iff.1 ht; rw [HED.out] at this; exact (List.mem_filter.1 this).1)
      have HIN := hideIt hin
      have hdl2 : due.length = du.length := HPA.out.1.length_eq
      generalize hnd : du.length = nd at *
      clear hnd hin
      have HL2 := hideIt hdl2
      clear hdl2
      obtain ⟨N1, hN1⟩ : ∃ N1, N1 = wc.heap.size := ⟨_, rfl⟩
      have hNc : N1 ≤ wc.heap.size := by omega
      have hNd : N0 ≤ N1 := by omega
      have HVB : Hid (∀ r, r < 21 → ∀ k, (V2 r).ownBlock = some k → k < N1) := hideIt (fun r hr k e => by have := ((H1.own r hr).lt k e).2; omega)
      have HDB : Hid (∀ k, (Value.slice pd nd capd).ownBlock = some k → k < N1) := hideIt (fun k e => by have := (OD.lt k e).2; omega)
      clear hN1
      go_wp2_with fail
      go_loopg [64] nd (fun g v64 wr => ∃ (j : Nat) (pf : Option Addr) (af cf : Nat), j + g = nd ∧ v64 = .int .i64 (j : Int) ∧ Hid (MdlAt wr D base V2 (incF m2 (due.take j)) ∧ RowR wr w.heap.size #[.int .i64 0, .int .i64 0, .int .i64 0, .int .u64 0, .bool false, .int .i64 0, .int .i64 0, .int .u32 0, .int .u64 0, .int .u64 0, .int .u64 0, .int .u64 0, .int .u64 0, .int .u64 0, .slice none 0 0] ∧ MW D V V2 w wr) ∧ RowR wr b5 (resCs 0 (-1) (-1) 0 false msg0 pf af cf) ∧ N1 ≤ wr.heap.size ∧ Hid (wr.ownsRow N0 84 4 (.slice pd nd capd) nd (tmCells due)) ∧ Hid (FiredAt wr N1 (.slice pf af cf) ((due.take j).map (firM ft))))
      case atStart => exact ⟨0, none, 0, 0, by omega, rfl, hideIt ⟨by simpa [incF] using H1, R4, Mw⟩, R7, hNc, hideIt OD, hideIt (by simp [FiredAt, firedCells]; exact own_nil _ _ _ _)⟩
      case round =>
        clear H1 R4 Mw R7 hbs OD hNc
        obtain ⟨j, pf, af, cf, hjg, rfl, HM, R7, hz, HO, HF⟩ := hrel
        by_cases hj : j < nd
        · have j0 : (0 : Int) ≤ j := by omega
          have j1 : (j : Int) < (nd : Int) := by omega
          have hbx : ∃ t, due[j]? = some t := ⟨due[j]'(by rw [HL2.out]; exact hj), List.getElem?_eq_getElem _⟩
          obtain ⟨t, htj⟩ := hbx
          obtain ⟨g, hp, c0, c1, c2, c3⟩ := row_four HO.out htj
          have hg := World.block_lt_of_cell? _ _ c0
          have hcr := HIN.out t (List.mem_of_getElem? htj)
          obtain ⟨c, hc⟩ : ∃ c : Nat, t.core = c := ⟨t.core.toNat, by omega⟩
          have hc4 : c < 4 := by omega
          have k0 : (0 : Int) ≤ c := by omega
          have k1 : (c : Int) < 4 := by omega
          rw [hc] at c1
          have HC := hideIt hc
          clear hc hcr
          subst hp
          have HT := hideIt htj
          clear htj
          have b1 := one_alloc wr (.cells #[.int .u64 t.id, .int .i64 (c : Int), .int .u64 t.dl, .int .u64 t.ck] 84)
          have F12 := FourR.new wr t.id (c : Int) t.dl t.ck 84
          have hzs : (wr.alloc (.cells #[.int .u64 t.id, .int .i64 (c : Int), .int .u64 t.dl, .int .u64 t.ck] 84)).heap.size = wr.heap.size + 1 := by simp
          have h5r := R7.lt
          go_upto_region 19 with fail
          generalize hWa : World.alloc wr (.cells #[.int .u64 t.id, .int .i64 (c : Int), .int .u64 t.dl, .int .u64 t.ck] 84) = wa at *
          clear hWa c0 c1 c2 c3
          generalize hb12 : wr.heap.size = b12 at *
          have hwa : b12 < wa.heap.size := by omega
          clear hzs
          have Ra : RowR wa b5 (resCs 0 (-1) (-1) 0 false msg0 pf af cf) := R7.blk (b1.block _ h5r)
          have Fa : FiredAt wa N1 (.slice pf af cf) ((due.take j).map (firM ft)) := own_below HF.out (by rw [hb12]; exact b1)
          have s14 := Ra.cell (j := 14) (v := .slice pf af cf) rfl
          obtain ⟨u0, u1, u2, u3⟩ := F12
          have F12 : FourR wa b12 t.id (c : Int) t.dl t.ck := ⟨u0, u1, u2, u3⟩
          have hfl : ((due.take j).map (firM ft)).length ≤ 900 := by rw [List.length_map, List.length_take, HL2.out]; omega
          obtain ⟨fl, hfe⟩ : ∃ fl, fl = (due.take j).map (firM ft) := ⟨_, rfl⟩
          rw [← hfe] at Fa hfl
          have HFE := hideIt hfe
          clear hfe
          have HB1 := hideIt b1
          clear b1
          go_cut [] (fun wd => ∃ (pf : Option Addr) (af cf : Nat), Hid (MdlAt wd D base V2 (incF m2 (due.take j)) ∧ RowR wd w.heap.size #[.int .i64 0, .int .i64 0, .int .i64 0, .int .u64 0, .bool false, .int .i64 0, .int .i64 0, .int .u32 0, .int .u64 0, .int .u64 0, .int .u64 0, .int .u64 0, .int .u64 0, .int .u64 0, .slice none 0 0] ∧ MW D V V2 w wd) ∧ RowR wd b5 (resCs 0 (-1) (-1) 0 false msg0 pf af cf) ∧ N1 ≤ wd.heap.size ∧ Hid (wd.ownsRow N0 84 4 (.slice (some ⟨g, 0, none⟩) nd capd) nd (tmCells due)) ∧ Hid (FiredAt wd N1 (.slice pf af cf) ((due.take (j + 1)).map (firM ft))) ∧ FourR wd b12 t.id (c : Int) t.dl t.ck)
          case first =>
            have hne5 : some b5 ≠ (Value.slice pf af cf).ownBlock := fun e => by have := (Fa.lt b5 e.symm).1; omega
            go_wp2_with (first | (at_builtin; refine wpList_append_own_at rfl (.tmp 69) (.tmp 76) 41 rfl N1 86 j0_ (.agg #[.int .u64 0, .int .i64 0, .int .u64 0, .int .u64 0, .int .u64 0]) 5 40 Tryz.underlying41 ji_ jz0 jz1 jz2 rfl (by decide) (.slice pf af cf) _ _ rfl (World.ownsRow.alloc Fa _) ⟨wa.heap.size, 0, none⟩ 1 1 [.int .u64 t.id, .int .i64 (c : Int), .int .u64 t.dl, .int .u64 t.ck, .int .u64 (max t.dl ft)] rfl rfl (cell_five_new _ _ _ _ _ _ _) (fir_one ⟨t.id, c, t.dl, t.ck, max t.dl ft⟩) (by unfold maxLen; omega) (by omega) (by simp; omega) ?_; intro v' w3 hown' hgrow hblk; obtain ⟨p', c', rfl⟩ := own_shape hown'; have Rc : RowR w3 b5 (resCs 0 (-1) (-1) 0 false msg0 pf af cf) := Ra.blk ((hgrow.block b5 (by simp; omega) hne5).trans ((one_alloc wa _).block b5 (by omega))); have s14c := Rc.cell (j := 14) (v := .slice pf af cf) rfl; have fzc := Rc.fz; have HG := hideIt (And.intro hown' (And.intro hgrow hblk)); clear hown' hgrow hblk) | go_in)
            go_meet
            case rel =>
              obtain ⟨ho, hgr, hk⟩ := HG.out
              obtain ⟨H0, R0, M0⟩ := HM.out
              have ba := one_alloc wa (.cells #[.int .u64 t.id, .int .i64 (c : Int), .int .u64 t.dl, .int .u64 t.ck, .int .u64 (max t.dl ft)] 86)
              have bN : Below N1 wr w3 := below_grown ((HB1.out.mono (by omega)).trans (ba.mono (by omega))) hgr (by simp; omega) (fun k e => (Fa.lt k e).1)
              have G5 : w3.grownBy (w3.setCell ⟨b5, 14, none⟩ (.slice p' (fl.length + 1) c')) (some b5) := ⟨rfl, rfl, rfl, by simp, fun k _ hk => far_set (fun e => hk (by rw [e]))⟩
              have O2 := own_below (own_below HO.out (by rw [hb12]; exact HB1.out)) ba
              have eF : (due.take (j + 1)).map (firM ft) = fl ++ [⟨t.id, c, t.dl, t.ck, max t.dl ft⟩] := by
                rw [take_next HT.out, List.map_append, HFE.out]
                show _ ++ [(⟨t.id, t.core, t.dl, t.ck, max t.dl ft⟩ : FiredS)] = _
                rw [HC.out]
              have hs3 := bN.size
              refine ⟨p', _, c', hideIt ⟨(H0.low (by omega) HVB.out bN).other n7D o7, R0.blk ((far_set (show w.heap.size ≠ b5 by omega)).trans (bN.block _ (by omega))), (M0.low (by omega) bN).set (by omega)⟩, Rc.set, by simp; omega, hideIt ((O2.kept hgr (dis_low HDB.out (fun k e => (Fa.lt k e).1))).kept G5 (.inr (fun e => by have := (HO.out.lt b5 e).1; omega))), hideIt ?_, F12.blk ((far_set (show b12 ≠ b5 by omega)).trans ((hgr.block b12 (by simp; omega) (fun e => by have := (HF.out.lt b12 e.symm).2; omega)).trans (ba.block b12 (by omega))))⟩
              rw [eF]
              exact World.ownsRow.kept (fir_snoc (x := ⟨t.id, c, t.dl, t.ck, max t.dl ft⟩) ho) G5 (.inr (fun e => by have := (ho.lt b5 e).1; omega))
          case rest =>
          clear R7 Ra Fa s14 HM HO HF HB1 u0 u1 u2 u3 F12 hz hwa
          obtain ⟨pf, af, cf, HM, R7, hz, HO, HF, F12⟩ := hcut
          obtain ⟨H1, R4, Mw⟩ := HM.out
          obtain ⟨mj, hmj⟩ : ∃ mj, mj = incF m2 (due.take j) := ⟨_, rfl⟩
          rw [← hmj] at H1
          have HMJ := hideIt hmj
          clear hmj HM
          have s0 := H1.stc (j := c * 7 + 6) (by omega)
          rw [← Nat.add_assoc] at s0
          obtain ⟨sv, hsv⟩ : ∃ sv, sv = mj.st (c * 7 + 6) := ⟨_, rfl⟩
          rw [← hsv] at s0
          have HSV := hideIt hsv
          clear hsv
          have u1 := F12.c1
          have fz := H1.fz
          go_upto_region 20 with fail
          refine wp_region_l (l := 13) (S := (fun w' => w'.cell? ⟨D, 87 + c * 7 + 6, none⟩ = some (.int .u64 sv) ∧ w'.cell? ⟨b12, 1, none⟩ = some (.int .i64 (c : Int)))) (by kernel_rfl) ⟨s0, u1⟩ (fun hHeld => ?_)
          refine AnyL.take2 (i := 0) (oi := { dst := some 79, op := Go.Op.move (Go.Operand.tmp 0), type := 26, pos := _, after := #[], guard := none }) (v := ?vv1) (by kernel_rfl) (by kernel_rfl) rfl (by kernel_rfl) (by kernel_rfl) (by kernel_rfl) (fun _ _ _ h => h) (Or.inl ⟨by rfl, ?hy1⟩) (by assumption) ?tk1
          case hy1 => (intro w hSw; (try dsimp only at hSw); go_simp; (try with_reducible rfl))
          try simp only [Act.put, List.setIfInBounds_toArray, List.set_cons_zero, List.set_cons_succ]
          refine AnyL.take2 (i := 1) (oi := { dst := some 80, op := Go.Op.fieldAddr 84 (Go.Operand.tmp 12) 1, type := 0, pos := _, after := #[], guard := none }) (v := ?vv2) (by kernel_rfl) (by kernel_rfl) rfl (by kernel_rfl) (by kernel_rfl) (by kernel_rfl) (fun _ _ _ h => h) (Or.inl ⟨by rfl, ?hy2⟩) (by assumption) ?tk2
          case hy2 => (intro w hSw; (try dsimp only at hSw); go_simp; (try with_reducible rfl))
          try simp only [Act.put, List.setIfInBounds_toArray, List.set_cons_zero, List.set_cons_succ]
          refine AnyL.take2 (i := 2) (oi := { dst := some 81, op := Go.Op.load 34 (Go.Operand.tmp 80), type := 34, pos := _, after := #[{ on := 1, ground := Go.Ground.data }], guard := none }) (v := ?vv3) (by kernel_rfl) (by kernel_rfl) rfl (by kernel_rfl) (by kernel_rfl) (by kernel_rfl) (fun _ _ _ h => h) (Or.inl ⟨by rfl, ?hy3⟩) (by assumption) ?tk3
          case hy3 => (intro w hSw; (try dsimp only at hSw); go_simp; (try with_reducible rfl))
          try simp only [Act.put, List.setIfInBounds_toArray, List.set_cons_zero, List.set_cons_succ]
          refine AnyL.take2 (i := 3) (oi := { dst := some 82, op := Go.Op.nilCheck (Go.Operand.tmp 79), type := 0, pos := _, after := #[{ on := 0, ground := Go.Ground.data }], guard := none }) (v := ?vv4) (by kernel_rfl) (by kernel_rfl) rfl (by kernel_rfl) (by kernel_rfl) (by kernel_rfl) (fun _ _ _ h => h) (Or.inl ⟨by rfl, ?hy4⟩) (by assumption) ?tk4
          case hy4 => (intro w hSw; (try dsimp only at hSw); go_simp; (try with_reducible rfl))
          try simp only [Act.put, List.setIfInBounds_toArray, List.set_cons_zero, List.set_cons_succ]
          refine AnyL.take2 (i := 4) (oi := { dst := some 83, op := Go.Op.fieldAddr 135 (Go.Operand.tmp 82) 7, type := 0, pos := _, after := #[{ on := 3, ground := Go.Ground.data }], guard := none }) (v := ?vv5) (by kernel_rfl) (by kernel_rfl) rfl (by kernel_rfl) (by kernel_rfl) (by kernel_rfl) (fun _ _ _ h => h) (Or.inl ⟨by rfl, ?hy5⟩) (by assumption) ?tk5
          case hy5 => (intro w hSw; (try dsimp only at hSw); go_simp; (try with_reducible rfl))
          try simp only [Act.put, List.setIfInBounds_toArray, List.set_cons_zero, List.set_cons_succ]
          refine AnyL.take2 (i := 5) (oi := { dst := some 84, op := Go.Op.indexAddr 133 (Go.Operand.tmp 83) (Go.Operand.tmp 81), type := 0, pos := _, after := #[{ on := 4, ground := Go.Ground.data }, { on := 2, ground := Go.Ground.data }], guard := none }) (v := ?vv6) (by kernel_rfl) (by kernel_rfl) rfl (by kernel_rfl) (by kernel_rfl) (by kernel_rfl) (fun _ _ _ h => h) (Or.inl ⟨by rfl, ?hy6⟩) (by assumption) ?tk6
          case hy6 => (intro w hSw; (try dsimp only at hSw); go_simp; (try with_reducible rfl))
          try simp only [Act.put, List.setIfInBounds_toArray, List.set_cons_zero, List.set_cons_succ]
          refine AnyL.take2 (i := 6) (oi := { dst := some 85, op := Go.Op.fieldAddr 52 (Go.Operand.tmp 84) 6, type := 0, pos := _, after := #[{ on := 5, ground := Go.Ground.data }], guard := none }) (v := ?vv7) (by kernel_rfl) (by kernel_rfl) rfl (by kernel_rfl) (by kernel_rfl) (by kernel_rfl) (fun _ _ _ h => h) (Or.inl ⟨by rfl, ?hy7⟩) (by assumption) ?tk7
          case hy7 => (intro w hSw; (try dsimp only at hSw); go_simp; (try with_reducible rfl))
          try simp only [Act.put, List.setIfInBounds_toArray, List.set_cons_zero, List.set_cons_succ]
          refine AnyL.take2 (i := 7) (oi := { dst := some 86, op := Go.Op.load 28 (Go.Operand.tmp 85), type := 28, pos := _, after := #[{ on := 6, ground := Go.Ground.data }], guard := none }) (v := ?vv8) (by kernel_rfl) (by kernel_rfl) rfl (by kernel_rfl) (by kernel_rfl) (by kernel_rfl) (fun _ _ _ h => h) (Or.inl ⟨by rfl, ?hy8⟩) (by assumption) ?tk8
          case hy8 => (intro w hSw; (try dsimp only at hSw); go_simp; (try with_reducible rfl))
          try simp only [Act.put, List.setIfInBounds_toArray, List.set_cons_zero, List.set_cons_succ]
          refine AnyL.take2 (i := 8) (oi := { dst := some 87, op := Go.Op.binOp Go.BinOp.add 28 (Go.Operand.tmp 86) (Go.Operand.const (Go.Value.int Go.IntKind.u64 1)) 28, type := 28, pos := _, after := #[{ on := 7, ground := Go.Ground.data }], guard := none }) (v := ?vv9) (by kernel_rfl) (by kernel_rfl) rfl (by kernel_rfl) (by kernel_rfl) (by kernel_rfl) (fun _ _ _ h => h) (Or.inl ⟨by rfl, ?hy9⟩) (by assumption) ?tk9
          case hy9 => (intro w hSw; (try dsimp only at hSw); go_simp; (try with_reducible rfl))
          try simp only [Act.put, List.setIfInBounds_toArray, List.set_cons_zero, List.set_cons_succ]
          refine AnyL.take2 (i := 9) (oi := { dst := some 88, op := Go.Op.nilCheck (Go.Operand.tmp 79), type := 0, pos := _, after := #[{ on := 0, ground := Go.Ground.data }], guard := none }) (v := ?vv10) (by kernel_rfl) (by kernel_rfl) rfl (by kernel_rfl) (by kernel_rfl) (by kernel_rfl) (fun _ _ _ h => h) (Or.inl ⟨by rfl, ?hy10⟩) (by assumption) ?tk10
          case hy10 => (intro w hSw; (try dsimp only at hSw); go_simp; (try with_reducible rfl))
          try simp only [Act.put, List.setIfInBounds_toArray, List.set_cons_zero, List.set_cons_succ]
          refine AnyL.take2 (i := 10) (oi := { dst := some 89, op := Go.Op.fieldAddr 135 (Go.Operand.tmp 88) 7, type := 0, pos := _, after := #[{ on := 9, ground := Go.Ground.data }], guard := none }) (v := ?vv11) (by kernel_rfl) (by kernel_rfl) rfl (by kernel_rfl) (by kernel_rfl) (by kernel_rfl) (fun _ _ _ h => h) (Or.inl ⟨by rfl, ?hy11⟩) (by assumption) ?tk11
          case hy11 => (intro w hSw; (try dsimp only at hSw); go_simp; (try with_reducible rfl))
          try simp only [Act.put, List.setIfInBounds_toArray, List.set_cons_zero, List.set_cons_succ]
          refine AnyL.take2 (i := 11) (oi := { dst := some 90, op := Go.Op.indexAddr 133 (Go.Operand.tmp 89) (Go.Operand.tmp 81), type := 0, pos := _, after := #[{ on := 10, ground := Go.Ground.data }, { on := 2, ground := Go.Ground.data }, { on := 0, ground := Go.Ground.phase }, { on := 1, ground := Go.Ground.phase }, { on := 2, ground := Go.Ground.phase }, { on := 3, ground := Go.Ground.phase }, { on := 4, ground := Go.Ground.phase }, { on := 5, ground := Go.Ground.phase }, { on := 6, ground := Go.Ground.phase }, { on := 7, ground := Go.Ground.phase }, { on := 8, ground := Go.Ground.phase }], guard := none }) (v := ?vv12) (by kernel_rfl) (by kernel_rfl) rfl (by kernel_rfl) (by kernel_rfl) (by kernel_rfl) (fun _ _ _ h => h) (Or.inl ⟨by rfl, ?hy12⟩) (by assumption) ?tk12
          case hy12 => (intro w hSw; (try dsimp only at hSw); go_simp; (try with_reducible rfl))
          try simp only [Act.put, List.setIfInBounds_toArray, List.set_cons_zero, List.set_cons_succ]
          refine AnyL.take2 (i := 12) (oi := { dst := some 91, op := Go.Op.fieldAddr 52 (Go.Operand.tmp 90) 6, type := 0, pos := _, after := #[{ on := 11, ground := Go.Ground.data }, { on := 0, ground := Go.Ground.phase }, { on := 1, ground := Go.Ground.phase }, { on := 2, ground := Go.Ground.phase }, { on := 3, ground := Go.Ground.phase }, { on := 4, ground := Go.Ground.phase }, { on := 5, ground := Go.Ground.phase }, { on := 6, ground := Go.Ground.phase }, { on := 7, ground := Go.Ground.phase }, { on := 8, ground := Go.Ground.phase }], guard := none }) (v := ?vv13) (by kernel_rfl) (by kernel_rfl) rfl (by kernel_rfl) (by kernel_rfl) (by kernel_rfl) (fun _ _ _ h => h) (Or.inl ⟨by rfl, ?hy13⟩) (by assumption) ?tk13
          case hy13 => (intro w hSw; (try dsimp only at hSw); go_simp; (try with_reducible rfl))
          try simp only [Act.put, List.setIfInBounds_toArray, List.set_cons_zero, List.set_cons_succ]
          refine AnyL.last (o := { dst := none, op := Go.Op.store 28 (Go.Operand.tmp 91) (Go.Operand.tmp 87), type := 0, pos := _, after := #[{ on := 12, ground := Go.Ground.data }, { on := 8, ground := Go.Ground.data }, { on := 0, ground := Go.Ground.phase }, { on := 1, ground := Go.Ground.phase }, { on := 2, ground := Go.Ground.phase }, { on := 3, ground := Go.Ground.phase }, { on := 4, ground := Go.Ground.phase }, { on := 5, ground := Go.Ground.phase }, { on := 6, ground := Go.Ground.phase }, { on := 7, ground := Go.Ground.phase }, { on := 8, ground := Go.Ground.phase }], guard := none }) (by kernel_rfl) rfl (by kernel_rfl) (fun K' hK' => ?_)
          go_simp
          clear hHeld
          refine hK'.out _ _ ?_
          clear hK' K'
          try simp only [Act.put, List.setIfInBounds_toArray, List.set_cons_zero, List.set_cons_succ]
          go_wp2
          go_roundg (nd - (j + 1))
          case measure => omega
          case rel =>
            obtain ⟨H8, F8⟩ := H1.drew.putStat (j := c * 7 + 6) (by omega) (inc64 sv)
            rw [← Nat.add_assoc] at H8 F8
            have e6 : incF m2 (due.take (j + 1)) = mj.setSt (c * 7 + 6) (inc64 sv) := by rw [incF_take HT.out, ← HMJ.out, HC.out, Int.toNat_natCast, HSV.out]; rfl
            have GD : (World.drew wc).grownBy ((World.drew wc).setCell ⟨D, 87 + c * 7 + 6, none⟩ (.int .u64 (inc64 sv))) (some D) := ⟨rfl, rfl, rfl, by simp, fun k _ hk => far_set (fun e => hk (by rw [e]))⟩
            have HO' := own_below HO.out (below_dr (Below.refl _ _))
            have HF' := own_below HF.out (below_dr (Below.refl _ _))
            exact ⟨j + 1, pf, af, cf, by omega, by go_num, hideIt ⟨by rw [e6]; exact H8, R4.blk (far_set n4D), (Mw.below (below_dr (Below.refl _ _))).then F8⟩, R7.blk (far_set n7D), by simpa using hz, hideIt (HO'.kept GD (.inr (fun e => by have := (HO'.lt D e).1; omega))), hideIt (World.ownsRow.kept HF' GD (.inr (fun e => by have := (HF'.lt D e).1; omega)))⟩
        · have ej : j = nd := by omega
          subst ej
          obtain ⟨H1, R4, Mw⟩ := HM.out
          have et : due.take j = due := by rw [← HL2.out, List.take_length]
          rw [et] at H1
          have HF' := HF.out
          rw [et] at HF'
          have HFF := hideIt HF'
          clear HF HF' HM et HO
          have hl43 := R7.load rfl
          have hs43 := R4.store rfl (cs := (resCs 0 (-1) (-1) 0 false msg0 pf af cf)) rfl (resCs_one _ _ _ _ _ _ _ _ _)
          go_upto_region 22 with fail
          go_wp2_with (first | (refine wpList_load_row rfl (.tmp 5) 43 rfl ⟨b5, 0, none⟩ (.agg (resCs 0 (-1) (-1) 0 false msg0 pf af cf)) rfl hl43 ?_) | (refine wpList_store_row rfl (.tmp 4) (.tmp 93) 43 rfl ⟨w.heap.size, 0, none⟩ (.agg (resCs 0 (-1) (-1) 0 false msg0 pf af cf)) rfl rfl hs43 ?_) | go_in)
          refine bodyPost_ret (v := .agg (resCs 0 (-1) (-1) 0 false msg0 pf af cf)) (results_cell_row rfl _ _ w.heap.size 43 _ (0, 0) _ rfl R4.row Tryz.underlying43 rfl sz43) rfl ⟨V2, pf, af, cf, due.map (firM ft), incF m2 due, rfl, fr_of (own_mono (World.ownsRow.kept HFF.out (setRow_grown _ _ _) (.inr (fun e => by have := (HFF.out.lt _ e).1; omega))) (by omega)), .inr ⟨HN0.out, due, ?_, HPA.out.2, ?_, ?_⟩, H1.otherRow n4D o4, (Mw.row (by omega)).fr⟩
          · rw [dueL, ← HLM.out, ← HNW.out, ← HN2.out, ← HED.out]; exact HPA.out.1
          · rw [← HNW.out, ← HFT.out]
          · rw [HM2.out, HM1.out, keepL, ← HLM.out, ← HNW.out, ← HN2.out, ← HEK.out]
end Go.Proofs.Qxb6500877aGreatDoor
