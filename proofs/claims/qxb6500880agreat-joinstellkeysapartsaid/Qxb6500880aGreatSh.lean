import Derived.Deep.CutBlock
import Derived.OwnWalk
import Derived.Maps.AppendAt
import Derived.Maps.OwnSet
import Derived.Maps.OwnOps
import Derived.Laws.ResultCell
import Derived.Laws.AppendOwnNone
import Derived.Test.Qxb6500880aGreatSg
set_option linter.unusedVariables false
set_option linter.unusedSimpArgs false
namespace Go.Proofs.Qxb6500880aGreat
open Go.RowKit

theorem ex_set {w : World} {a b : Addr} {v : Value} (h : ∃ u, w.cell? a = some u) : ∃ u, (w.setCell b v).cell? a = some u := by
  obtain ⟨u, hu⟩ := h
  by_cases q : a = b
  · subst q; exact ⟨v, World.cell?_setCell_same _ _ _ hu⟩
  · exact ⟨u, (World.cell?_setCell_other _ _ _ _ (fun e => q e.symm)).trans hu⟩
set_option maxRecDepth 20000 in
set_option maxHeartbeats 8000000 in
theorem tuple_any {w : World} {E SB mi k b row : Nat} {vals : Value} {nm : ByteArray} {s : RelS} {d : Nat → Nat} (e4 : w.cell? ⟨E, 4, none⟩ = some (.pointer (some ⟨SB, 0, none⟩))) (H : SymsAt w SB mi vals k) (R : RelAt w b nm s) (hd : SymR w s.data (s.rows * s.A) d) (hv : ∀ j, j < s.rows * s.A → d j < k) (hA0 : 0 < s.A) (hA : s.A ≤ 100) (hR : s.rows ≤ 1000) (hk : k ≤ 1000) (hrow : row < s.rows) :
    Calls Tryz.prog 40 #[.pointer (some ⟨E, 0, none⟩), .pointer (some ⟨b, 0, none⟩), .int .i64 (row : Int)] w fun e w' => ∃ g, e = .returned (.slice (some ⟨g, 0, none⟩) s.A s.A) ∧ w.heap.size ≤ g ∧ g < w'.heap.size ∧ (∀ t, t < s.A → w'.cell? ⟨g, t * 4 + 2, none⟩ = some (.int .i64 (d (row * s.A + t) : Int))) ∧ Below w.heap.size w w' := by
  obtain ⟨i9, hi9, hx0, hx1, hx2⟩ := info_parts info26
  have ar := R.ar
  obtain ⟨A, hAe⟩ : ∃ A, s.A = A := ⟨_, rfl⟩
  have HQ := hideIt (And.intro e4 (And.intro H (And.intro R (And.intro hd (And.intro hv hAe)))))
  rw [hAe] at ar hA hA0
  rw [hAe]
  clear e4 H R hd hv hAe
  go_enter Tryz.func40, Tryz.ntmps40
  go_wp2_with (first | (at_make; refine wpList_make_full _ rfl _ _ 30 rfl w.heap.size 26 i9 _ 4 Tryz.underlying30 hi9 hx0 hx1 .i64 .i64 A A A rfl rfl rfl rfl (by rw [hx2]; omega) (by unfold maxLen; omega) (Nat.le_refl _) ?_) | go_in)
  intro w1 own1 grow1
  have b1 : Below w.heap.size w w1 := ⟨grow1.os, grow1.tape, grow1.output, grow1.size, fun k hk => grow1.block k hk (by simp)⟩
  have ex1 : ∀ j, j < A * 4 → ∃ u, w1.cell? ⟨w.heap.size, j, none⟩ = some u := fun j hj => by
    obtain ⟨g, cc, ev, hcc, hg, hgl, hcl, hfz⟩ := own_full own1 (by omega)
    have eg : w.heap.size = g := by simp only [Value.slice.injEq, Option.some.injEq, Addr.mk.injEq] at ev; exact ev.1.1
    rw [eg, hcl j hj]
    have hl := own1.1
    exact ⟨_, List.getElem?_eq_getElem (by omega)⟩
  have fz1 : ∀ o, w1.frozen? ⟨w.heap.size, o, none⟩ = false := fun o => own1.frozenAt o
  have hG1 : w.heap.size < w1.heap.size := (own1.lt _ rfl).2
  obtain ⟨e4, H, R, hd, hv, hAe⟩ := HQ.out
  have hrw := row_any (R.below b1) (hd.below b1) (by omega) (by omega) hR hrow
  rw [hAe] at hrw
  have H1 := hideIt (And.intro ex1 (And.intro fz1 b1))
  clear own1 grow1 ex1 fz1 b1 e4 H R hd hv hAe ar
  go_wp2_with fail
  refine hrw.mono ?_
  rintro e w2 ⟨v, rfl, sy, hvb, ew⟩
  obtain ⟨p2, c2, rfl, hc2, z2⟩ := sy
  obtain ⟨ex1, fz1, b1⟩ := H1.out
  have Q2 : (∀ j, j < A * 4 → ∃ u, w2.cell? ⟨w.heap.size, j, none⟩ = some u) ∧ (∀ o, w2.frozen? ⟨w.heap.size, o, none⟩ = false) ∧ Below w.heap.size w w2 := by
    rw [ew]; exact ⟨ex1, fz1, below_dr b1⟩
  have hsd : ∀ q, (Value.slice p2 A c2).ownBlock = some q → q < w.heap.size := fun q hq => by
    obtain ⟨e4, H, R, hd, hv, hAe⟩ := HQ.out
    obtain ⟨pd, cd, ed, hcd, zd⟩ := hd
    rw [hvb, ed] at hq
    rcases zd with z | ⟨gd, od, e2, z⟩
    · have : 0 < s.rows * s.A := Nat.mul_pos (by omega) (by omega)
      omega
    · rw [e2] at hq
      have e3 : gd = q := Option.some.inj hq
      rw [← e3]
      exact World.block_lt_of_cell? _ _ (z 0 (Nat.mul_pos (by omega) (by omega)))
  have HZ := hideIt (And.intro Q2 (And.intro z2 hsd))
  clear Q2 z2 hsd ew hvb ex1 fz1 b1 hrw
  generalize hG : w.heap.size = G at *
  go_wp2_with fail
  go_loopg [19] A (fun gg v wr => ∃ i : Nat, i + gg = A ∧ v = .int .i64 (i : Int) ∧ (∀ j, j < A * 4 → ∃ u, wr.cell? ⟨G, j, none⟩ = some u) ∧ (∀ o, wr.frozen? ⟨G, o, none⟩ = false) ∧ (∀ t, t < i → wr.cell? ⟨G, t * 4 + 2, none⟩ = some (.int .i64 (d (row * A + t) : Int))) ∧ Below G w wr ∧ Below G w2 wr ∧ G < wr.heap.size)
  case atStart =>
    obtain ⟨⟨q1, q2, q3⟩, _⟩ := HZ.out
    obtain ⟨u, hu⟩ := q1 0 (by omega)
    exact ⟨0, by omega, rfl, q1, q2, fun t ht => by omega, q3, Below.refl _ _, World.block_lt_of_cell? _ _ hu⟩
  case round =>
    obtain ⟨i, hi, rfl, ex, fz, hc, bw, bw2, hGr⟩ := hrel
    by_cases hin : i < A
    · have i0 : (0 : Int) ≤ i := by omega
      have i1 : (i : Int) < (A : Int) := by omega
      obtain ⟨⟨_, _, _⟩, z2, hsd⟩ := HZ.out
      obtain ⟨gd, od, rfl, dz⟩ : ∃ gd od, p2 = some ⟨gd, od, none⟩ ∧ wr.cell? ⟨gd, od + i, none⟩ = some (.int .u32 (d (row * A + i) : Int)) := by
        rcases z2 with z | ⟨gd, od, e, z⟩
        · omega
        · subst e
          exact ⟨gd, od, rfl, (World.cell?_of_block (a := ⟨gd, od + i, none⟩) (bw2.block gd (hsd gd rfl))).trans (z i hin)⟩
      obtain ⟨e4, H, R, hd, hv, hAe⟩ := HQ.out
      have hvi : d (row * A + i) < k := hv _ (by rw [hAe]; exact row_lt hrow hin)
      have hw : Below w.heap.size w wr := by rw [hG]; exact bw
      have hval := valueS_any (i := d (row * A + i)) (H.keep (fun q hq hl => hw.block q hl)) hvi hk
      have y4 := cell_later hw e4
      obtain ⟨x, hx⟩ : ∃ x, d (row * A + i) = x := ⟨_, rfl⟩
      rw [hx] at hval dz
      have HX := hideIt (And.intro ex (And.intro fz (And.intro hc (And.intro bw (And.intro bw2 (And.intro hGr hx))))))
      clear ex fz hc bw bw2 hGr hx z2 hsd e4 H R hd hv hAe hvi hw
      go_wp2_with fail
      refine hval.mono ?_
      rintro e w5 ⟨rfl, b5⟩
      obtain ⟨ex, fz, hc, bw, bw2, hGr, hx⟩ := HX.out
      have e5 := b5.block G hGr
      obtain ⟨u0, k0⟩ := ex (i * 4) (by omega)
      obtain ⟨u1, k1⟩ := ex (i * 4 + 1) (by omega)
      obtain ⟨u2, k2⟩ := ex (i * 4 + 2) (by omega)
      obtain ⟨u3, k3⟩ := ex (i * 4 + 3) (by omega)
      have k0 := (World.cell?_of_block (a := ⟨G, i * 4, none⟩) e5).trans k0
      have k1 := (World.cell?_of_block (a := ⟨G, i * 4 + 1, none⟩) e5).trans k1
      have k2 := (World.cell?_of_block (a := ⟨G, i * 4 + 2, none⟩) e5).trans k2
      have k3 := (World.cell?_of_block (a := ⟨G, i * 4 + 3, none⟩) e5).trans k3
      have f5 : ∀ o, w5.frozen? ⟨G, o, none⟩ = false := fun o => (World.frozen?_of_block (a := ⟨G, o, none⟩) e5).trans (fz o)
      have HB := hideIt b5
      clear ex fz hc bw bw2 hGr hx e5 b5 hval dz y4
      go_wp2
      obtain ⟨ex, fz, hc, bw, bw2, hGr, hx⟩ := HX.out
      have b5 := HB.out
      have e5 := b5.block G hGr
      go_roundg (A - (i + 1))
      case measure => omega
      case rel =>
        refine ⟨i + 1, by omega, by go_num, fun j hj => ?_, fun o => ?_, fun t ht => ?_, ?_, ?_, ?_⟩
        · obtain ⟨u, hu⟩ := ex j hj
          exact ex_set (ex_set (ex_set (ex_set ⟨u, (World.cell?_of_block (a := ⟨G, j, none⟩) e5).trans hu⟩)))
        · rw [World.frozen?_setCell, World.frozen?_setCell, World.frozen?_setCell, World.frozen?_setCell]; exact f5 o
        · by_cases q : t = i
          · subst q
            rw [hx]
            refine (World.cell?_setCell_other _ _ _ _ (by simp <;> omega)).trans ?_
            exact World.cell?_setCell_same _ _ _ ((World.cell?_setCell_other _ _ _ _ (by simp <;> omega)).trans ((World.cell?_setCell_other _ _ _ _ (by simp <;> omega)).trans k2))
          · refine (World.cell?_setCell_other _ _ _ _ (by simp <;> omega)).trans ((World.cell?_setCell_other _ _ _ _ (by simp <;> omega)).trans ((World.cell?_setCell_other _ _ _ _ (by simp <;> omega)).trans ((World.cell?_setCell_other _ _ _ _ (by simp <;> omega)).trans ?_)))
            exact (World.cell?_of_block (a := ⟨G, t * 4 + 2, none⟩) e5).trans (hc t (by omega))
        · exact below_cell (below_cell (below_cell (below_cell (bw.trans (b5.mono (by omega))) (by omega) _) (by omega) _) (by omega) _) (by omega) _
        · exact below_cell (below_cell (below_cell (below_cell (bw2.trans (b5.mono (by omega))) (by omega) _) (by omega) _) (by omega) _) (by omega) _
        · have := b5.size
          simp
          omega
    · have i1 : ¬ ((i : Int) < (A : Int)) := by omega
      have e : i = A := by omega
      subst e
      have HX := hideIt (And.intro hc (And.intro bw hGr))
      clear ex fz hc bw bw2 hGr
      go_wp2
      go_ret
      obtain ⟨hc, bw, hGr⟩ := HX.out
      exact ⟨G, rfl, by omega, hGr, hc, bw⟩
end Go.Proofs.Qxb6500880aGreat
