import Derived.Deep.CutBlock
import Derived.OwnWalk
import Derived.Maps.AppendAt
import Derived.Test.Qxb6500877aGreatDoorAd
import Derived.Test.Qxb6500877aGreatDoorNLb
set_option linter.unusedVariables false
set_option linter.unusedSimpArgs false
namespace Go.Proofs.Qxb6500877aGreatDoor
open Go.RowKit

theorem wp_append_own_at {P : Program} {w : World} {o : Oper} {a : Act} {K : Act → World → Prop} {Q : Exit → Act → World → Prop} (s x : Operand) (t : TypeId)
    (ho : o.op = .call { callee := .builtin .append, args := #[s, x], argTypes := #[t, t] })
    (base : Nat) (e : TypeId) (i : TypeInfo) (z : Value) (size bytes : Nat) (ht : P.underlying t = some (.slice e)) (hi : P.info? e = some i) (hz : i.zero = some z)
    (hsize : i.size = size) (hby : i.bytes = bytes) (hzs : z.cells.size = size) (hsz : 0 < size)
    (v : Value) (n : Nat) (xs : List Value) (hs : a.eval s = v) (hown : w.ownsRow base e size v n xs)
    (ad : Addr) (m c : Nat) (news : List Value) (hx : a.eval x = .slice (some ad) m c) (hl : news.length = m * size) (hnews : ∀ j u, news[j]? = some u → w.cell? (ad.add j) = some u) (h1 : ∀ u ∈ news, u.oneCell' = true)
    (h63 : n + m ≤ maxLen) (hbytes : (n + m) * bytes ≤ 140737488355328) (hbase : base ≤ w.heap.size)
    (h : ∀ v' w', w'.ownsRow base e size v' (n + m) (xs ++ news) → w.grownBy w' v.ownBlock → (v'.ownBlock = v.ownBlock ∨ v'.ownBlock = some w.heap.size) → K (a.put o.dst v') w') : o.wp P a w K Q := by
  obtain ⟨v', w', hr, h2, h3, h4, h5⟩ := run_append_own_at (P := P) w base t o.type e i z size bytes ht hi hz hsize hby hzs hsz v n xs hown ad m c news hl hnews h1 h63 hbytes hbase
  unfold Oper.wp execOp
  simp only [ho, resolve, invoke, builtin, Sem.run_bind, Sem.run_pure, Result.andThen_ok, List.map_toArray, List.map_cons, List.map_nil, hs, hx, hr]
  exact h v' w' h2 h3 h5
theorem pushed_frozen {wr w3 : World} {ob : Obj} {row : Option Nat} {q : Nat} (hg : ((World.drew wr).alloc ob).grownBy w3 row) (h1 : q < wr.heap.size) (h2 : some q ≠ row) (o : Nat) : w3.frozen? ⟨q, o, none⟩ = wr.frozen? ⟨q, o, none⟩ := by
  have hs : ((World.drew wr).alloc ob).heap.size = wr.heap.size + 1 := by
    show ((World.drew wr).alloc ob).heap.size = (World.drew wr).heap.size + 1
    simp
  have e2 : w3.heap[q]? = wr.heap[q]? := (hg.block q (by omega) h2).trans ((one_alloc (World.drew wr) ob).block q h1)
  exact World.frozen?_of_block (a := ⟨q, o, none⟩) e2
/-- What a law lays behind one of its rows leaves the machine and the law's other things as they were. -/
theorem grown_da {w wa w3 : World} {row : Option Nat} (hg : wa.grownBy w3 row) (b1 : Below w.heap.size w wa) : w.grownBy w3 row :=
  ⟨hg.os.trans b1.os, hg.tape.trans b1.tape, hg.output.trans b1.output, Nat.le_trans b1.size hg.size, fun k hk hr => (hg.block k (Nat.lt_of_lt_of_le hk b1.size) hr).trans (b1.block k hk)⟩
theorem blk_da {w wa : World} {a : Option Nat} {b : Option Nat} (h : b = a ∨ b = some wa.heap.size) (b1 : Below w.heap.size w wa) : b = a ∨ ∃ q, b = some q ∧ w.heap.size ≤ q := by
  rcases h with h | h
  · exact .inl h
  · exact .inr ⟨_, h, b1.size⟩
def Mdl.setTk (m : Mdl) (t : Nat) (x : Int × Int × Int) : Mdl := { m with tk := upd m.tk t x }
def Mdl.setWt (m : Mdl) (c : Nat) (l : List Nat) : Mdl := { m with wt := upd m.wt c l }
theorem enc_tk {m : Mdl} {t : Nat} {x : Int × Int × Int} {q : Nat} (ht : t < 16) (h0 : q = 1 + t * 3 → x.1 = (m.tk t).1) (h1 : q = 1 + t * 3 + 1 → x.2.1 = (m.tk t).2.1) (h2 : q = 1 + t * 3 + 2 → x.2.2 = (m.tk t).2.2) : (m.setTk t x).enc q = m.enc q := by
  unfold Mdl.enc
  split
  · rfl
  split
  · by_cases e : (q - 1) / 3 = t
    · have eq : (m.setTk t x).tk ((q - 1) / 3) = x := by rw [e]; exact upd_same _ _ _
      rw [eq, e]
      split
      · rw [h0 (by omega)]
      · split
        · rw [h1 (by omega)]
        · rw [h2 (by omega)]
    · have eq : (m.setTk t x).tk ((q - 1) / 3) = m.tk ((q - 1) / 3) := upd_other _ _ e
      rw [eq]
  · rfl
theorem MdlAt.putSt {w : World} {D base : Nat} {V : Nat → Value} {m : Mdl} (h : MdlAt w D base V m) {t : Nat} (ht : t < 16) (v : Int) :
    MdlAt (w.setCell ⟨D, 1 + t * 3, none⟩ (.int .u8 v)) D base V (m.setTk t (v, (m.tk t).2.1, (m.tk t).2.2)) ∧ MFr D V V w (w.setCell ⟨D, 1 + t * 3, none⟩ (.int .u8 v)) := by
  refine h.put (by unfold plainO; omega) ?_ (fun q hq hne => enc_tk ht (fun e => absurd e hne) (fun _ => rfl) (fun _ => rfl)) (fun r _ => ⟨rfl, rfl⟩)
  unfold Mdl.enc
  rw [if_neg (by omega), if_pos (by omega), if_pos (by omega), show (1 + t * 3 - 1) / 3 = t by omega]
  show Value.int .u8 (upd m.tk t _ t).1 = _
  rw [upd_same]
theorem MdlAt.putHome {w : World} {D base : Nat} {V : Nat → Value} {m : Mdl} (h : MdlAt w D base V m) {t : Nat} (ht : t < 16) (v : Int) :
    MdlAt (w.setCell ⟨D, 1 + t * 3 + 1, none⟩ (.int .i64 v)) D base V (m.setTk t ((m.tk t).1, v, (m.tk t).2.2)) ∧ MFr D V V w (w.setCell ⟨D, 1 + t * 3 + 1, none⟩ (.int .i64 v)) := by
  refine h.put (by unfold plainO; omega) ?_ (fun q hq hne => enc_tk ht (fun _ => rfl) (fun e => absurd e hne) (fun _ => rfl)) (fun r _ => ⟨rfl, rfl⟩)
  unfold Mdl.enc
  rw [if_neg (by omega), if_pos (by omega), if_neg (by omega), if_pos (by omega), show (1 + t * 3 + 1 - 1) / 3 = t by omega]
  show Value.int .i64 (upd m.tk t _ t).2.1 = _
  rw [upd_same]
theorem MdlAt.putBand {w : World} {D base : Nat} {V : Nat → Value} {m : Mdl} (h : MdlAt w D base V m) {t : Nat} (ht : t < 16) (v : Int) :
    MdlAt (w.setCell ⟨D, 1 + t * 3 + 2, none⟩ (.int .i64 v)) D base V (m.setTk t ((m.tk t).1, (m.tk t).2.1, v)) ∧ MFr D V V w (w.setCell ⟨D, 1 + t * 3 + 2, none⟩ (.int .i64 v)) := by
  refine h.put (by unfold plainO; omega) ?_ (fun q hq hne => enc_tk ht (fun _ => rfl) (fun _ => rfl) (fun e => absurd e hne)) (fun r _ => ⟨rfl, rfl⟩)
  unfold Mdl.enc
  rw [if_neg (by omega), if_pos (by omega), if_neg (by omega), if_neg (by omega), show (1 + t * 3 + 2 - 1) / 3 = t by omega]
  show Value.int .i64 (upd m.tk t _ t).2.2 = _
  rw [upd_same]
/-- The waiting list of a core, as a row. -/
theorem MdlAt.wrow {w : World} {D base : Nat} {V : Nat → Value} {m : Mdl} (h : MdlAt w D base V m) {c : Nat} (hc : c < 4) : w.cell? ⟨D, 49 + c, none⟩ = some (V c) ∧ w.ownsRow base 35 1 (V c) (m.wt c).length (idCells (m.wt c)) := by
  have h1 := h.sl c (by omega)
  have h2 := h.own c (by omega)
  unfold mRO at h1
  unfold mRT mRS Mdl.rn Mdl.rc at h2
  rw [if_pos (by omega)] at h1
  rw [if_pos hc, if_pos hc, if_pos hc, if_pos hc] at h2
  exact ⟨h1, h2⟩
theorem MdlAt.newWt {w w3 : World} {D base : Nat} {V : Nat → Value} {m : Mdl} {c : Nat} {v' : Value} {l : List Nat} (h : MdlAt w D base V m) (hc : c < 4) (hg : w.grownBy w3 (V c).ownBlock) (ho : w3.ownsRow base 35 1 v' l.length (idCells l)) (hb : v'.ownBlock = (V c).ownBlock ∨ ∃ q, v'.ownBlock = some q ∧ w.heap.size ≤ q) :
    MdlAt (w3.setCell ⟨D, 49 + c, none⟩ v') D base (upd V c v') (m.setWt c l) ∧ MFr D V (upd V c v') w (w3.setCell ⟨D, 49 + c, none⟩ v') := by
  have e : mRO c = 49 + c := by unfold mRO; rw [if_pos (by omega)]
  rw [← e]
  refine h.row (by omega) hg ?_ hb (fun q _ => rfl) (fun s hs hne => ?_)
  · unfold mRT mRS Mdl.rn Mdl.rc
    rw [if_pos hc, if_pos hc, if_pos hc, if_pos hc]
    show w3.ownsRow base 35 1 v' (upd m.wt c l c).length (idCells (upd m.wt c l c))
    rw [upd_same]
    exact ho
  · unfold Mdl.rn Mdl.rc
    by_cases q : s < 4
    · have : (m.setWt c l).wt s = m.wt s := upd_other _ _ hne
      rw [if_pos q, if_pos q, if_pos q, if_pos q, this]
      exact ⟨rfl, rfl⟩
    · rw [if_neg q, if_neg q, if_neg q, if_neg q]
      exact ⟨rfl, rfl⟩
/-- A task joins the waiting list of core c. -/
def Mdl.join (m : Mdl) (t c : Nat) : Mdl := (m.setTk t (2, (m.tk t).2.1, (m.tk t).2.2)).setWt c (m.wt c ++ [t])
set_option maxRecDepth 20000 in
set_option maxHeartbeats 4000000 in
theorem join_any {w : World} {D base : Nat} {V : Nat → Value} {m : Mdl} {t c : Nat} (H : MdlAt w D base V m) (hb : base ≤ w.heap.size) (ht : t < 16) (hc : c < 4) (eh : (m.tk t).2.1 = c) (hl : (m.wt c).length ≤ 1000) :
    Calls Tryz.prog 153 #[.pointer (some ⟨D, 0, none⟩), .int .i64 (t : Int)] w fun e w' => ∃ V', e = .returned (.tuple #[]) ∧ MdlAt w' D base V' (m.join t c) ∧ MFr D V V' w w' := by
  obtain ⟨i0_, hi_, hz0, hz1, hz2⟩ := info_parts info35
  obtain ⟨q0, q1, _⟩ := H.task ht
  obtain ⟨H1, F1⟩ := H.putSt ht 2
  have t0 : (0 : Int) ≤ t := by omega
  have t1 : (t : Int) < 16 := by omega
  have c0 : (0 : Int) ≤ c := by omega
  have c1 : (c : Int) < 4 := by omega
  have fz := H.fz
  have n1 : ¬ (1 + t * 3 = 1 + t * 3 + 1) := by omega
  rw [eh] at q1
  go_enter Tryz.func153, Tryz.ntmps153
  go_upto_region 2 with fail
  obtain ⟨w1, hw1⟩ : ∃ w1, w1 = w.setCell ⟨D, 1 + t * 3, none⟩ (.int .u8 2) := ⟨_, rfl⟩
  rw [← hw1] at H1 F1 ⊢
  obtain ⟨s0, hown⟩ := H1.wrow hc
  obtain ⟨pv, cap, ev⟩ := own_shape hown
  rw [ev] at s0 hown
  have e1 : (m.setTk t (2, (m.tk t).2.1, (m.tk t).2.2)).wt c = m.wt c := rfl
  rw [e1] at s0 hown ev
  have hbs : base ≤ w1.heap.size := Nat.le_trans hb F1.size
  have hDl := H1.dlt
  have hDr : some D ≠ (Value.slice pv (m.wt c).length cap).ownBlock := fun e => by have := (hown.lt D e.symm).1; have := H.lt; omega
  have fz := H1.fz
  clear q0 q1 hw1
  generalize hn : (m.wt c).length = n at *
  generalize hll : m.wt c = l at *
  refine wp_region_l (l := 14) (S := (fun w' => w'.cell? ⟨D, 49 + c, none⟩ = some (.slice pv n cap))) (by kernel_rfl) s0 (fun hHeld => ?_)
  refine AnyL.take2 (i := 0) (oi := { dst := some 18, op := Go.Op.move (Go.Operand.tmp 0), type := 26, pos := _, after := #[], guard := none }) (v := ?vv1) (by kernel_rfl) (by kernel_rfl) rfl (by kernel_rfl) (by kernel_rfl) (by kernel_rfl) (fun _ _ _ h => h) (Or.inl ⟨by rfl, ?hy1⟩) (by assumption) ?tk1
  case hy1 => (intro w hSw; (try dsimp only at hSw); go_simp; (try with_reducible rfl))
  try simp only [Act.put, List.setIfInBounds_toArray, List.set_cons_zero, List.set_cons_succ]
  refine AnyL.take2 (i := 1) (oi := { dst := some 19, op := Go.Op.move (Go.Operand.tmp 4), type := 34, pos := _, after := #[], guard := none }) (v := ?vv2) (by kernel_rfl) (by kernel_rfl) rfl (by kernel_rfl) (by kernel_rfl) (by kernel_rfl) (fun _ _ _ h => h) (Or.inl ⟨by rfl, ?hy2⟩) (by assumption) ?tk2
  case hy2 => (intro w hSw; (try dsimp only at hSw); go_simp; (try with_reducible rfl))
  try simp only [Act.put, List.setIfInBounds_toArray, List.set_cons_zero, List.set_cons_succ]
  refine AnyL.take2 (i := 2) (oi := { dst := some 20, op := Go.Op.move (Go.Operand.tmp 0), type := 26, pos := _, after := #[], guard := none }) (v := ?vv3) (by kernel_rfl) (by kernel_rfl) rfl (by kernel_rfl) (by kernel_rfl) (by kernel_rfl) (fun _ _ _ h => h) (Or.inl ⟨by rfl, ?hy3⟩) (by assumption) ?tk3
  case hy3 => (intro w hSw; (try dsimp only at hSw); go_simp; (try with_reducible rfl))
  try simp only [Act.put, List.setIfInBounds_toArray, List.set_cons_zero, List.set_cons_succ]
  refine AnyL.take2 (i := 3) (oi := { dst := some 21, op := Go.Op.move (Go.Operand.tmp 4), type := 34, pos := _, after := #[], guard := none }) (v := ?vv4) (by kernel_rfl) (by kernel_rfl) rfl (by kernel_rfl) (by kernel_rfl) (by kernel_rfl) (fun _ _ _ h => h) (Or.inl ⟨by rfl, ?hy4⟩) (by assumption) ?tk4
  case hy4 => (intro w hSw; (try dsimp only at hSw); go_simp; (try with_reducible rfl))
  try simp only [Act.put, List.setIfInBounds_toArray, List.set_cons_zero, List.set_cons_succ]
  refine AnyL.take2 (i := 4) (oi := { dst := some 22, op := Go.Op.nilCheck (Go.Operand.tmp 20), type := 0, pos := _, after := #[{ on := 2, ground := Go.Ground.data }], guard := none }) (v := ?vv5) (by kernel_rfl) (by kernel_rfl) rfl (by kernel_rfl) (by kernel_rfl) (by kernel_rfl) (fun _ _ _ h => h) (Or.inl ⟨by rfl, ?hy5⟩) (by assumption) ?tk5
  case hy5 => (intro w hSw; (try dsimp only at hSw); go_simp; (try with_reducible rfl))
  try simp only [Act.put, List.setIfInBounds_toArray, List.set_cons_zero, List.set_cons_succ]
  refine AnyL.take2 (i := 5) (oi := { dst := some 23, op := Go.Op.fieldAddr 135 (Go.Operand.tmp 22) 2, type := 0, pos := _, after := #[{ on := 4, ground := Go.Ground.data }], guard := none }) (v := ?vv6) (by kernel_rfl) (by kernel_rfl) rfl (by kernel_rfl) (by kernel_rfl) (by kernel_rfl) (fun _ _ _ h => h) (Or.inl ⟨by rfl, ?hy6⟩) (by assumption) ?tk6
  case hy6 => (intro w hSw; (try dsimp only at hSw); go_simp; (try with_reducible rfl))
  try simp only [Act.put, List.setIfInBounds_toArray, List.set_cons_zero, List.set_cons_succ]
  refine AnyL.take2 (i := 6) (oi := { dst := some 24, op := Go.Op.indexAddr 132 (Go.Operand.tmp 23) (Go.Operand.tmp 21), type := 0, pos := _, after := #[{ on := 5, ground := Go.Ground.data }, { on := 3, ground := Go.Ground.data }], guard := none }) (v := ?vv7) (by kernel_rfl) (by kernel_rfl) rfl (by kernel_rfl) (by kernel_rfl) (by kernel_rfl) (fun _ _ _ h => h) (Or.inl ⟨by rfl, ?hy7⟩) (by assumption) ?tk7
  case hy7 => (intro w hSw; (try dsimp only at hSw); go_simp; (try with_reducible rfl))
  try simp only [Act.put, List.setIfInBounds_toArray, List.set_cons_zero, List.set_cons_succ]
  refine AnyL.take2 (i := 7) (oi := { dst := some 25, op := Go.Op.load 50 (Go.Operand.tmp 24), type := 50, pos := _, after := #[{ on := 6, ground := Go.Ground.data }], guard := none }) (v := ?vv8) (by kernel_rfl) (by kernel_rfl) rfl (by kernel_rfl) (by kernel_rfl) (by kernel_rfl) (fun _ _ _ h => h) (Or.inl ⟨by rfl, ?hy8⟩) (by assumption) ?tk8
  case hy8 => (intro w hSw; (try dsimp only at hSw); go_simp; (try with_reducible rfl))
  try simp only [Act.put, List.setIfInBounds_toArray, List.set_cons_zero, List.set_cons_succ]
  refine AnyL.take2 (i := 8) (oi := { dst := some 26, op := Go.Op.move (Go.Operand.tmp 1), type := 35, pos := _, after := #[], guard := none }) (v := ?vv9) (by kernel_rfl) (by kernel_rfl) rfl (by kernel_rfl) (by kernel_rfl) (by kernel_rfl) (fun _ _ _ h => h) (Or.inl ⟨by rfl, ?hy9⟩) (by assumption) ?tk9
  case hy9 => (intro w hSw; (try dsimp only at hSw); go_simp; (try with_reducible rfl))
  try simp only [Act.put, List.setIfInBounds_toArray, List.set_cons_zero, List.set_cons_succ]
  refine AnyL.take2 (i := 11) (oi := { dst := some 29, op := Go.Op.nilCheck (Go.Operand.tmp 18), type := 0, pos := _, after := #[{ on := 0, ground := Go.Ground.data }], guard := none }) (v := ?vv10) (by kernel_rfl) (by kernel_rfl) rfl (by kernel_rfl) (by kernel_rfl) (by kernel_rfl) (fun _ _ _ h => h) (Or.inl ⟨by rfl, ?hy10⟩) (by assumption) ?tk10
  case hy10 => (intro w hSw; (try dsimp only at hSw); go_simp; (try with_reducible rfl))
  try simp only [Act.put, List.setIfInBounds_toArray, List.set_cons_zero, List.set_cons_succ]
  refine AnyL.take2 (i := 12) (oi := { dst := some 30, op := Go.Op.fieldAddr 135 (Go.Operand.tmp 29) 2, type := 0, pos := _, after := #[{ on := 11, ground := Go.Ground.data }], guard := none }) (v := ?vv11) (by kernel_rfl) (by kernel_rfl) rfl (by kernel_rfl) (by kernel_rfl) (by kernel_rfl) (fun _ _ _ h => h) (Or.inl ⟨by rfl, ?hy11⟩) (by assumption) ?tk11
  case hy11 => (intro w hSw; (try dsimp only at hSw); go_simp; (try with_reducible rfl))
  try simp only [Act.put, List.setIfInBounds_toArray, List.set_cons_zero, List.set_cons_succ]
  refine AnyL.one (i := 9) (o := { dst := some 27, op := Go.Op.buildSlice 50 1 #[(0, Go.Operand.tmp 26)], type := 50, pos := _, after := #[{ on := 8, ground := Go.Ground.data }], guard := none }) (by kernel_rfl) rfl rfl (fun K' hK' => ?_)
  go_simp
  clear hHeld
  refine hK'.out _ _ (by go_simp) (fun hHeld => ?_)
  clear hK' K'
  try simp only [Act.put, List.setIfInBounds_toArray, List.set_cons_zero, List.set_cons_succ]
  refine AnyL.one (i := 10) (o := { dst := some 28, op := Go.Op.call { callee := Go.Callee.builtin Go.Builtin.append, args := #[Go.Operand.tmp 25, Go.Operand.tmp 27], argTypes := #[50, 50] }, type := 50, pos := _, after := #[{ on := 7, ground := Go.Ground.data }, { on := 9, ground := Go.Ground.data }], guard := none }) (by kernel_rfl) rfl rfl (fun K' hK' => ?_)
  refine ite_take (by rfl) ?_
  refine wp_append_own_at (.tmp 25) (.tmp 27) 50 rfl base 35 i0_ (.int .i64 0) 1 8 Tryz.underlying50 hi_ hz0 hz1 hz2 rfl (by decide) (.slice pv n cap) n (idCells l) rfl (hown.alloc _) ⟨w1.heap.size, 0, none⟩ 1 1 [.int .i64 (t : Int)] rfl rfl (cell_one_new _ _ _) (fun x hx => by simp at hx; rw [hx]; rfl) (by unfold maxLen; omega) (by omega) (by simp; omega) ?_
  intro v' w3 hown' hgrow hblk
  obtain ⟨p', c', rfl⟩ := own_shape hown'
  have fz3 := fun o => (pushed_frozen hgrow hDl hDr o).trans (fz o)
  have k0 := hgrow.cell (a := ⟨D, 49 + c, none⟩) hHeld hDr
  have HG := hideIt (And.intro hown' (And.intro hgrow hblk))
  clear hown' hgrow hblk
  clear hHeld
  refine hK'.out _ _ k0 (fun hHeld => ?_)
  clear hK' K'
  try simp only [Act.put, List.setIfInBounds_toArray, List.set_cons_zero, List.set_cons_succ]
  refine AnyL.take2 (i := 13) (oi := { dst := some 31, op := Go.Op.indexAddr 132 (Go.Operand.tmp 30) (Go.Operand.tmp 19), type := 0, pos := _, after := #[{ on := 12, ground := Go.Ground.data }, { on := 1, ground := Go.Ground.data }, { on := 0, ground := Go.Ground.phase }, { on := 1, ground := Go.Ground.phase }, { on := 2, ground := Go.Ground.phase }, { on := 3, ground := Go.Ground.phase }, { on := 4, ground := Go.Ground.phase }, { on := 5, ground := Go.Ground.phase }, { on := 6, ground := Go.Ground.phase }, { on := 7, ground := Go.Ground.phase }, { on := 8, ground := Go.Ground.phase }, { on := 9, ground := Go.Ground.phase }, { on := 10, ground := Go.Ground.phase }], guard := none }) (v := ?vv12) (by kernel_rfl) (by kernel_rfl) rfl (by kernel_rfl) (by kernel_rfl) (by kernel_rfl) (fun _ _ _ h => h) (Or.inl ⟨by rfl, ?hy12⟩) (by assumption) ?tk12
  case hy12 => (intro w hSw; (try dsimp only at hSw); go_simp; (try with_reducible rfl))
  try simp only [Act.put, List.setIfInBounds_toArray, List.set_cons_zero, List.set_cons_succ]
  refine AnyL.last (o := { dst := none, op := Go.Op.store 50 (Go.Operand.tmp 31) (Go.Operand.tmp 28), type := 0, pos := _, after := #[{ on := 13, ground := Go.Ground.data }, { on := 10, ground := Go.Ground.data }, { on := 10, ground := Go.Ground.chain }, { on := 0, ground := Go.Ground.phase }, { on := 1, ground := Go.Ground.phase }, { on := 2, ground := Go.Ground.phase }, { on := 3, ground := Go.Ground.phase }, { on := 4, ground := Go.Ground.phase }, { on := 5, ground := Go.Ground.phase }, { on := 6, ground := Go.Ground.phase }, { on := 7, ground := Go.Ground.phase }, { on := 8, ground := Go.Ground.phase }, { on := 9, ground := Go.Ground.phase }, { on := 10, ground := Go.Ground.phase }], guard := none }) (by kernel_rfl) rfl (by kernel_rfl) (fun K' hK' => ?_)
  go_simp
  clear hHeld
  refine hK'.out _ _ ?_
  clear hK' K'
  try simp only [Act.put, List.setIfInBounds_toArray, List.set_cons_zero, List.set_cons_succ]
  go_end0
  obtain ⟨ho, hg, hk⟩ := HG.out
  have bd := below_dr (one_alloc w1 (.cells #[.int .i64 (t : Int)] 35))
  have hN := H1.newWt (l := l ++ [t]) hc (w3 := w3) (by rw [ev]; exact grown_da hg bd) (ids_snoc (by rw [hn]; exact ho)) (by rw [ev]; exact blk_da hk bd)
  exact ⟨_, rfl, by unfold Mdl.join; rw [hll]; exact hN.1, F1.trans hN.2⟩
end Go.Proofs.Qxb6500877aGreatDoor
