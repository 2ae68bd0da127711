import Derived.Deep.CutBlock
import Derived.OwnWalk
import Derived.Test.Qxb6500877aGreatDoorAe
set_option linter.unusedVariables false
set_option linter.unusedSimpArgs false
namespace Go.Proofs.Qxb6500877aGreatDoor
open Go.RowKit

theorem idx_here {l : List Nat} {x j : Nat} (h : l[j]? = some x) (hn : x ∉ l.take j) : l.idxOf x = j := by
  have hj : j < l.length := (List.getElem?_eq_some_iff.1 h).1
  have hx : l[j] = x := by
    rw [List.getElem?_eq_getElem hj] at h
    exact Option.some.inj h
  have e : l = l.take j ++ l.drop j := (List.take_append_drop j l).symm
  rw [e, List.idxOf_append, if_neg hn, List.drop_eq_getElem_cons hj, hx, List.idxOf_cons_self, List.length_take, Nat.min_eq_left (Nat.le_of_lt hj)]
  omega
def idxI (l : List Nat) (x : Nat) : Int := if x ∈ l then (l.idxOf x : Int) else -1
set_option maxHeartbeats 4000000 in
theorem index_full {w : World} {base cap : Nat} {p : Option Addr} {l : List Nat} {x : Nat} (H : IdsAt w base (.slice p l.length cap) l) (hbig : l.length ≤ 1000) :
    Calls Tryz.prog 109 #[.slice p l.length cap, .int .i64 (x : Int)] w fun e w' => e = .returned (.int .i64 (idxI l x)) ∧ w' = w := by
  go_enter Tryz.func109, Tryz.ntmps109
  have HI := hideIt H
  clear H
  go_wp2_with fail
  go_loopg [8] l.length (fun gg v wr => ∃ j : Nat, j + gg = l.length ∧ v = .int .i64 (j : Int) ∧ w = wr ∧ Hid (x ∉ l.take j))
  case atStart => exact ⟨0, by omega, rfl, rfl, hideIt (by simp)⟩
  case round =>
    obtain ⟨j, hjg, rfl, rfl, HD⟩ := hrel
    by_cases hj : j < l.length
    · have j0 : (0 : Int) ≤ j := by omega
      have j1 : (j : Int) < (l.length : Int) := by omega
      have hbx : ∃ b, l[j]? = some b := ⟨l[j], List.getElem?_eq_getElem hj⟩
      obtain ⟨b, hbj⟩ := hbx
      have hgx : ∃ g, p = some ⟨g, 0, none⟩ ∧ w.cell? ⟨g, j, none⟩ = some (.int .i64 (b : Int)) := by
        rcases HI.out with ⟨h1, _⟩ | ⟨g, cap', h1, _, _, h4⟩
        · rw [h1] at hj; simp at hj
        · simp only [Value.slice.injEq] at h1
          exact ⟨g, h1.1, h4 j b hbj⟩
      obtain ⟨g, rfl, tj⟩ := hgx
      have HB := hideIt hbj
      clear hbj
      by_cases hxb : x = b
      · subst hxb
        go_wp2
        go_ret
        have e : idxI l x = (j : Int) := by rw [idxI, if_pos (List.mem_of_getElem? HB.out), idx_here HB.out HD.out]
        exact ⟨by rw [e]; rfl, rfl⟩
      · have hne : ((x : Int) == (b : Int)) = false := by simp; omega
        have HN := hideIt hxb
        clear hxb
        go_wp2
        go_roundg (l.length - (j + 1))
        case measure => omega
        case rel =>
          refine ⟨j + 1, by omega, by go_num, rfl, hideIt ?_⟩
          rw [List.take_add_one, HB.out]
          simp only [Option.toList_some, List.mem_append, List.mem_singleton, not_or]
          exact ⟨HD.out, HN.out⟩
    · have e : j = l.length := by omega
      subst e
      have hn : x ∉ l := by have := HD.out; rw [List.take_length] at this; exact this
      have e : idxI l x = -1 := if_neg hn
      have HE := hideIt e
      clear hn e
      go_wp2
      go_ret
      exact ⟨by rw [HE.out]; rfl, rfl⟩
/-- A task leaves the waiting list of core c. -/
def Mdl.leave (m : Mdl) (t c : Nat) : Mdl := m.setWt c ((m.wt c).erase t)
theorem leave_no {m : Mdl} {t c : Nat} (h : t ∉ m.wt c) : m.leave t c = m := by
  unfold Mdl.leave Mdl.setWt
  rw [List.erase_of_not_mem h]
  have : upd m.wt c (m.wt c) = m.wt := by
    funext j
    unfold upd
    split
    · rename_i e; rw [e]
    · rfl
  rw [this]
theorem erase_cells (l : List Nat) (t : Nat) : (idCells l).take (l.idxOf t * 1) ++ (idCells l).drop ((l.idxOf t + 1) * 1) = idCells (l.erase t) := by
  rw [List.erase_eq_eraseIdx_of_idxOf rfl, Nat.mul_one, Nat.mul_one, List.eraseIdx_eq_take_drop_succ]
  simp [idCells, List.map_take, List.map_drop]
set_option maxRecDepth 20000 in
set_option maxHeartbeats 4000000 in
theorem leave_any {w : World} {D base : Nat} {V : Nat → Value} {m : Mdl} {t c : Nat} (H : MdlAt w D base V m) (ht : t < 16) (hc : c < 4) (eh : (m.tk t).2.1 = c) (hl : (m.wt c).length ≤ 1000) :
    Calls Tryz.prog 154 #[.pointer (some ⟨D, 0, none⟩), .int .i64 (t : Int)] w fun e w' => ∃ V', e = .returned (.tuple #[]) ∧ MdlAt w' D base V' (m.leave t c) ∧ MFr D V V' w w' := by
  obtain ⟨q0, q1, _⟩ := H.task ht
  have t0 : (0 : Int) ≤ t := by omega
  have t1 : (t : Int) < 16 := by omega
  have c0 : (0 : Int) ≤ c := by omega
  have c1 : (c : Int) < 4 := by omega
  rw [eh] at q1
  obtain ⟨s0, hown⟩ := H.wrow hc
  obtain ⟨pv, cap, ev⟩ := own_shape hown
  rw [ev] at s0 hown
  have hix := index_full (x := t) (ids_own hown) hl
  by_cases hm : t ∈ m.wt c
  · rw [show idxI (m.wt c) t = _ from if_pos hm] at hix
    have hkn : (m.wt c).idxOf t < (m.wt c).length := List.idxOf_lt_length_of_mem hm
    have HER := hideIt (erase_cells (m.wt c) t)
    have hgx : ∃ g, pv = some ⟨g, 0, none⟩ := by
      rcases hown.2 with ⟨_, e2⟩ | ⟨g, cap', cur, e1, _⟩
      · omega
      · simp only [Value.slice.injEq] at e1
        exact ⟨g, e1.1⟩
    obtain ⟨g, rfl⟩ := hgx
    have hDl := H.dlt
    have hDr : some D ≠ some g := fun e => by have := (hown.lt g rfl).1; have := H.lt; have : D = g := Option.some.inj e; omega
    have fz := H.fz
    have hone := ids_one (m.wt c)
    have HM := hideIt hm
    generalize hkk : (m.wt c).idxOf t = k at hix hkn HER
    have k0' : (0 : Int) ≤ k := by omega
    have hwk : IntKind.i64.wrap ((k : Int) + 1) = (k : Int) + 1 := by rw [IntKind.wrap_i64]; omega
    generalize hn : (m.wt c).length = n at *
    clear hkk hm
    go_enter Tryz.func154, Tryz.ntmps154
    go_wp2_with fail
    refine hix.mono ?_
    rintro e w ⟨rfl, rfl⟩
    clear hix
    go_upto_region 3 with fail
    refine wp_region_l (l := 15) (S := (fun w' => w'.cell? ⟨D, 49 + c, none⟩ = some (.slice (some ⟨g, 0, none⟩) n cap))) (by kernel_rfl) s0 (fun hHeld => ?_)
    refine AnyL.take2 (i := 0) (oi := { dst := some 23, op := Go.Op.move (Go.Operand.tmp 0), type := 26, pos := _, after := #[], guard := none }) (v := ?vv1) (by kernel_rfl) (by kernel_rfl) rfl (by kernel_rfl) (by kernel_rfl) (by kernel_rfl) (fun _ _ _ h => h) (Or.inl ⟨by rfl, ?hy1⟩) (by assumption) ?tk1
    case hy1 => (intro w hSw; (try dsimp only at hSw); go_simp; (try with_reducible rfl))
    try simp only [Act.put, List.setIfInBounds_toArray, List.set_cons_zero, List.set_cons_succ]
    refine AnyL.take2 (i := 1) (oi := { dst := some 24, op := Go.Op.move (Go.Operand.tmp 4), type := 34, pos := _, after := #[], guard := none }) (v := ?vv2) (by kernel_rfl) (by kernel_rfl) rfl (by kernel_rfl) (by kernel_rfl) (by kernel_rfl) (fun _ _ _ h => h) (Or.inl ⟨by rfl, ?hy2⟩) (by assumption) ?tk2
    case hy2 => (intro w hSw; (try dsimp only at hSw); go_simp; (try with_reducible rfl))
    try simp only [Act.put, List.setIfInBounds_toArray, List.set_cons_zero, List.set_cons_succ]
    refine AnyL.take2 (i := 2) (oi := { dst := some 25, op := Go.Op.move (Go.Operand.tmp 0), type := 26, pos := _, after := #[], guard := none }) (v := ?vv3) (by kernel_rfl) (by kernel_rfl) rfl (by kernel_rfl) (by kernel_rfl) (by kernel_rfl) (fun _ _ _ h => h) (Or.inl ⟨by rfl, ?hy3⟩) (by assumption) ?tk3
    case hy3 => (intro w hSw; (try dsimp only at hSw); go_simp; (try with_reducible rfl))
    try simp only [Act.put, List.setIfInBounds_toArray, List.set_cons_zero, List.set_cons_succ]
    refine AnyL.take2 (i := 3) (oi := { dst := some 26, op := Go.Op.move (Go.Operand.tmp 4), type := 34, pos := _, after := #[], guard := none }) (v := ?vv4) (by kernel_rfl) (by kernel_rfl) rfl (by kernel_rfl) (by kernel_rfl) (by kernel_rfl) (fun _ _ _ h => h) (Or.inl ⟨by rfl, ?hy4⟩) (by assumption) ?tk4
    case hy4 => (intro w hSw; (try dsimp only at hSw); go_simp; (try with_reducible rfl))
    try simp only [Act.put, List.setIfInBounds_toArray, List.set_cons_zero, List.set_cons_succ]
    refine AnyL.take2 (i := 4) (oi := { dst := some 27, op := Go.Op.nilCheck (Go.Operand.tmp 25), type := 0, pos := _, after := #[{ on := 2, ground := Go.Ground.data }], guard := none }) (v := ?vv5) (by kernel_rfl) (by kernel_rfl) rfl (by kernel_rfl) (by kernel_rfl) (by kernel_rfl) (fun _ _ _ h => h) (Or.inl ⟨by rfl, ?hy5⟩) (by assumption) ?tk5
    case hy5 => (intro w hSw; (try dsimp only at hSw); go_simp; (try with_reducible rfl))
    try simp only [Act.put, List.setIfInBounds_toArray, List.set_cons_zero, List.set_cons_succ]
    refine AnyL.take2 (i := 5) (oi := { dst := some 28, op := Go.Op.fieldAddr 135 (Go.Operand.tmp 27) 2, type := 0, pos := _, after := #[{ on := 4, ground := Go.Ground.data }], guard := none }) (v := ?vv6) (by kernel_rfl) (by kernel_rfl) rfl (by kernel_rfl) (by kernel_rfl) (by kernel_rfl) (fun _ _ _ h => h) (Or.inl ⟨by rfl, ?hy6⟩) (by assumption) ?tk6
    case hy6 => (intro w hSw; (try dsimp only at hSw); go_simp; (try with_reducible rfl))
    try simp only [Act.put, List.setIfInBounds_toArray, List.set_cons_zero, List.set_cons_succ]
    refine AnyL.take2 (i := 6) (oi := { dst := some 29, op := Go.Op.indexAddr 132 (Go.Operand.tmp 28) (Go.Operand.tmp 26), type := 0, pos := _, after := #[{ on := 5, ground := Go.Ground.data }, { on := 3, ground := Go.Ground.data }], guard := none }) (v := ?vv7) (by kernel_rfl) (by kernel_rfl) rfl (by kernel_rfl) (by kernel_rfl) (by kernel_rfl) (fun _ _ _ h => h) (Or.inl ⟨by rfl, ?hy7⟩) (by assumption) ?tk7
    case hy7 => (intro w hSw; (try dsimp only at hSw); go_simp; (try with_reducible rfl))
    try simp only [Act.put, List.setIfInBounds_toArray, List.set_cons_zero, List.set_cons_succ]
    refine AnyL.take2 (i := 7) (oi := { dst := some 30, op := Go.Op.load 50 (Go.Operand.tmp 29), type := 50, pos := _, after := #[{ on := 6, ground := Go.Ground.data }], guard := none }) (v := ?vv8) (by kernel_rfl) (by kernel_rfl) rfl (by kernel_rfl) (by kernel_rfl) (by kernel_rfl) (fun _ _ _ h => h) (Or.inl ⟨by rfl, ?hy8⟩) (by assumption) ?tk8
    case hy8 => (intro w hSw; (try dsimp only at hSw); go_simp; (try with_reducible rfl))
    try simp only [Act.put, List.setIfInBounds_toArray, List.set_cons_zero, List.set_cons_succ]
    refine AnyL.take2 (i := 8) (oi := { dst := some 31, op := Go.Op.move (Go.Operand.tmp 5), type := 3, pos := _, after := #[], guard := none }) (v := ?vv9) (by kernel_rfl) (by kernel_rfl) rfl (by kernel_rfl) (by kernel_rfl) (by kernel_rfl) (fun _ _ _ h => h) (Or.inl ⟨by rfl, ?hy9⟩) (by assumption) ?tk9
    case hy9 => (intro w hSw; (try dsimp only at hSw); go_simp; (try with_reducible rfl))
    try simp only [Act.put, List.setIfInBounds_toArray, List.set_cons_zero, List.set_cons_succ]
    refine AnyL.take2 (i := 9) (oi := { dst := some 32, op := Go.Op.move (Go.Operand.tmp 5), type := 3, pos := _, after := #[], guard := none }) (v := ?vv10) (by kernel_rfl) (by kernel_rfl) rfl (by kernel_rfl) (by kernel_rfl) (by kernel_rfl) (fun _ _ _ h => h) (Or.inl ⟨by rfl, ?hy10⟩) (by assumption) ?tk10
    case hy10 => (intro w hSw; (try dsimp only at hSw); go_simp; (try with_reducible rfl))
    try simp only [Act.put, List.setIfInBounds_toArray, List.set_cons_zero, List.set_cons_succ]
    refine AnyL.take2 (i := 10) (oi := { dst := some 33, op := Go.Op.binOp Go.BinOp.add 3 (Go.Operand.tmp 32) (Go.Operand.const (Go.Value.int Go.IntKind.i64 1)) 3, type := 3, pos := _, after := #[{ on := 9, ground := Go.Ground.data }], guard := none }) (v := ?vv11) (by kernel_rfl) (by kernel_rfl) rfl (by kernel_rfl) (by kernel_rfl) (by kernel_rfl) (fun _ _ _ h => h) (Or.inl ⟨by rfl, ?hy11⟩) (by assumption) ?tk11
    case hy11 => (intro w hSw; (try dsimp only at hSw); go_simp; (try with_reducible rfl))
    try simp only [Act.put, List.setIfInBounds_toArray, List.set_cons_zero, List.set_cons_succ]
    refine AnyL.take2 (i := 12) (oi := { dst := some 35, op := Go.Op.nilCheck (Go.Operand.tmp 23), type := 0, pos := _, after := #[{ on := 0, ground := Go.Ground.data }], guard := none }) (v := ?vv12) (by kernel_rfl) (by kernel_rfl) rfl (by kernel_rfl) (by kernel_rfl) (by kernel_rfl) (fun _ _ _ h => h) (Or.inl ⟨by rfl, ?hy12⟩) (by assumption) ?tk12
    case hy12 => (intro w hSw; (try dsimp only at hSw); go_simp; (try with_reducible rfl))
    try simp only [Act.put, List.setIfInBounds_toArray, List.set_cons_zero, List.set_cons_succ]
    refine AnyL.take2 (i := 13) (oi := { dst := some 36, op := Go.Op.fieldAddr 135 (Go.Operand.tmp 35) 2, type := 0, pos := _, after := #[{ on := 12, ground := Go.Ground.data }], guard := none }) (v := ?vv13) (by kernel_rfl) (by kernel_rfl) rfl (by kernel_rfl) (by kernel_rfl) (by kernel_rfl) (fun _ _ _ h => h) (Or.inl ⟨by rfl, ?hy13⟩) (by assumption) ?tk13
    case hy13 => (intro w hSw; (try dsimp only at hSw); go_simp; (try with_reducible rfl))
    try simp only [Act.put, List.setIfInBounds_toArray, List.set_cons_zero, List.set_cons_succ]
    refine AnyL.one (i := 11) (o := { dst := some 34, op := Go.Op.call { callee := Go.Callee.value (Go.Operand.func 195), args := #[Go.Operand.tmp 30, Go.Operand.tmp 31, Go.Operand.tmp 33], argTypes := #[50, 3, 3] }, type := 50, pos := _, after := #[{ on := 7, ground := Go.Ground.data }, { on := 8, ground := Go.Ground.data }, { on := 10, ground := Go.Ground.data }], guard := none }) (by kernel_rfl) rfl rfl (fun K' hK' => ?_)
    go_simp
    go_at_call 195
    refine (delete_ids (i := k) (w := World.drew w) hown hone hkn (by omega)).mono ?_
    rintro e w3 ⟨rfl, hown', hgrow⟩
    have fz3 := fun o => (World.frozen?_of_block (a := ⟨D, o, none⟩) (hgrow.block D hDl hDr)).trans (fz o)
    have k0 := hgrow.cell (a := ⟨D, 49 + c, none⟩) hHeld hDr
    have HG := hideIt (And.intro hown' hgrow)
    clear hown' hgrow
    clear hHeld
    refine hK'.out _ _ k0 (fun hHeld => ?_)
    clear hK' K'
    try simp only [Act.put, List.setIfInBounds_toArray, List.set_cons_zero, List.set_cons_succ]
    refine AnyL.take2 (i := 14) (oi := { dst := some 37, op := Go.Op.indexAddr 132 (Go.Operand.tmp 36) (Go.Operand.tmp 24), type := 0, pos := _, after := #[{ on := 13, ground := Go.Ground.data }, { on := 1, ground := Go.Ground.data }, { on := 0, ground := Go.Ground.phase }, { on := 1, ground := Go.Ground.phase }, { on := 2, ground := Go.Ground.phase }, { on := 3, ground := Go.Ground.phase }, { on := 4, ground := Go.Ground.phase }, { on := 5, ground := Go.Ground.phase }, { on := 6, ground := Go.Ground.phase }, { on := 7, ground := Go.Ground.phase }, { on := 8, ground := Go.Ground.phase }, { on := 9, ground := Go.Ground.phase }, { on := 10, ground := Go.Ground.phase }, { on := 11, ground := Go.Ground.phase }], guard := none }) (v := ?vv14) (by kernel_rfl) (by kernel_rfl) rfl (by kernel_rfl) (by kernel_rfl) (by kernel_rfl) (fun _ _ _ h => h) (Or.inl ⟨by rfl, ?hy14⟩) (by assumption) ?tk14
    case hy14 => (intro w hSw; (try dsimp only at hSw); go_simp; (try with_reducible rfl))
    try simp only [Act.put, List.setIfInBounds_toArray, List.set_cons_zero, List.set_cons_succ]
    refine AnyL.last (o := { dst := none, op := Go.Op.store 50 (Go.Operand.tmp 37) (Go.Operand.tmp 34), type := 0, pos := _, after := #[{ on := 14, ground := Go.Ground.data }, { on := 11, ground := Go.Ground.data }, { on := 11, ground := Go.Ground.chain }, { on := 0, ground := Go.Ground.phase }, { on := 1, ground := Go.Ground.phase }, { on := 2, ground := Go.Ground.phase }, { on := 3, ground := Go.Ground.phase }, { on := 4, ground := Go.Ground.phase }, { on := 5, ground := Go.Ground.phase }, { on := 6, ground := Go.Ground.phase }, { on := 7, ground := Go.Ground.phase }, { on := 8, ground := Go.Ground.phase }, { on := 9, ground := Go.Ground.phase }, { on := 10, ground := Go.Ground.phase }, { on := 11, ground := Go.Ground.phase }], guard := none }) (by kernel_rfl) rfl (by kernel_rfl) (fun K' hK' => ?_)
    go_simp
    clear hHeld
    refine hK'.out _ _ ?_
    clear hK' K'
    try simp only [Act.put, List.setIfInBounds_toArray, List.set_cons_zero, List.set_cons_succ]
    go_end0
    obtain ⟨ho, hg⟩ := HG.out
    have hN := H.newWt (l := (m.wt c).erase t) hc (w3 := w3) (v' := .slice (some ⟨g, 0, none⟩) (n - 1) cap) (by rw [ev]; exact ⟨hg.os, hg.tape, hg.output, hg.size, hg.block⟩) (by rw [← HER.out, List.length_erase_of_mem HM.out, hn]; exact ho) (by rw [ev]; exact .inl rfl)
    exact ⟨_, rfl, hN.1, hN.2⟩
  · rw [show idxI (m.wt c) t = _ from if_neg hm] at hix
    go_enter Tryz.func154, Tryz.ntmps154
    go_wp2_with fail
    refine hix.mono ?_
    rintro e w ⟨rfl, rfl⟩
    go_wp2
    go_end0
    exact ⟨V, rfl, by rw [leave_no hm]; exact H, MFr.refl _ _ _⟩
end Go.Proofs.Qxb6500877aGreatDoor
