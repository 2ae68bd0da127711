import Derived.Deep.CutBlock
import Derived.OwnWalk
import Derived.Maps.AppendAt
import Derived.Maps.OwnSet
import Derived.Maps.OwnOps
import Derived.Laws.ResultCell
import Derived.Laws.AppendOwnNone
import Derived.Test.Qxb6500880aGreatSm
set_option linter.unusedVariables false
set_option linter.unusedSimpArgs false
namespace Go.Proofs.Qxb6500880aGreat
open Go.RowKit

/-- Entry i of the answer is the tuple of some row. -/
def TupV (w : World) (g n : Nat) (s : RelS) (d : Nat → Nat) : Prop := ∀ i, i < n → ∃ r gt, r < s.rows ∧ gt ≠ g ∧ gt < w.heap.size ∧ w.cell? ⟨g, i, none⟩ = some (.slice (some ⟨gt, 0, none⟩) s.A s.A) ∧ ∀ t, t < s.A → w.cell? ⟨gt, t * 4 + 2, none⟩ = some (.int .i64 (d (r * s.A + t) : Int))
/-- What export reads all along. -/
structure EXI (w : World) (EB E SB mi k b n c : Nat) (p : Option Addr) (vals : Value) (nm : ByteArray) (s : RelS) (d : Nat → Nat) : Prop where
  x0 : w.cell? ⟨EB, 0, none⟩ = some (.pointer (some ⟨E, 0, none⟩))
  x1 : w.cell? ⟨EB + 1, 0, none⟩ = some (.pointer (some ⟨b, 0, none⟩))
  e4 : w.cell? ⟨E, 4, none⟩ = some (.pointer (some ⟨SB, 0, none⟩))
  H : SymsAt w SB mi vals k
  R : RelAt w b nm s
  hd : SymR w s.data (s.rows * s.A) d
  K : RowV w p n c s.rows
theorem EXI.below {w w' : World} {EB E SB mi k b n c : Nat} {p : Option Addr} {vals : Value} {nm : ByteArray} {s : RelS} {d : Nat → Nat} (h : EXI w EB E SB mi k b n c p vals nm s d) (hb : Below w.heap.size w w') : EXI w' EB E SB mi k b n c p vals nm s d := ⟨cell_later hb h.x0, cell_later hb h.x1, cell_later hb h.e4, h.H.keep (fun q _ hl => hb.block q hl), h.R.below hb, h.hd.below hb, by
  rcases h.K with z | ⟨g, z1, z2, z3⟩
  · exact .inl z
  · exact .inr ⟨g, z1, Nat.lt_of_lt_of_le z2 hb.size, z3.keep (hb.block g z2)⟩⟩
set_option maxRecDepth 20000 in
set_option maxHeartbeats 8000000 in
theorem export_any {w : World} {E SB mi k b n c : Nat} {p : Option Addr} {vals : Value} {nm : ByteArray} {s : RelS} {d : Nat → Nat} (e4 : w.cell? ⟨E, 4, none⟩ = some (.pointer (some ⟨SB, 0, none⟩))) (H : SymsAt w SB mi vals k) (R : RelAt w b nm s) (hd : SymR w s.data (s.rows * s.A) d) (hv : ∀ j, j < s.rows * s.A → d j < k) (hA0 : 0 < s.A) (hA : s.A ≤ 100) (hR : s.rows ≤ 1000) (hk : k ≤ 1000) (K : RowV w p n c s.rows) (hne : ∀ g, p = some ⟨g, 0, none⟩ → g < w.heap.size ∧ E ≠ g ∧ (∀ q, fpS SB mi vals q → q ≠ g) ∧ b ≠ g ∧ s.data.ownBlock ≠ some g) (h20 : n < 20) :
    Calls Tryz.prog 23 #[.pointer (some ⟨E, 0, none⟩), .pointer (some ⟨b, 0, none⟩), .slice p n c] w fun e w' => ∃ g, e = .returned (.slice (some ⟨g, 0, none⟩) n n) ∧ TupV w' g n s d ∧ Ws (fun q => p = some ⟨q, 0, none⟩) w w' := by
  obtain ⟨i9, hi9, hx0, hx1, hx2⟩ := info_parts info30
  have b1 := one_alloc w (.cells #[.pointer (some ⟨E, 0, none⟩)] 58)
  have b2 := one_alloc (w.alloc (.cells #[.pointer (some ⟨E, 0, none⟩)] 58)) (.cells #[.pointer (some ⟨b, 0, none⟩)] 99)
  have hz1 : (w.alloc (.cells #[.pointer (some ⟨E, 0, none⟩)] 58)).heap.size = w.heap.size + 1 := by simp
  have a0 : ((w.alloc (.cells #[.pointer (some ⟨E, 0, none⟩)] 58)).alloc (.cells #[.pointer (some ⟨b, 0, none⟩)] 99)).cell? ⟨w.heap.size, 0, none⟩ = some (.pointer (some ⟨E, 0, none⟩)) := cell_later b2 (new_cell rfl _ _ _)
  have a1 : ((w.alloc (.cells #[.pointer (some ⟨E, 0, none⟩)] 58)).alloc (.cells #[.pointer (some ⟨b, 0, none⟩)] 99)).cell? ⟨w.heap.size + 1, 0, none⟩ = some (.pointer (some ⟨b, 0, none⟩)) := new_cell hz1.symm _ _ _
  have b12 := then_ b1 b2
  have hs2 : ((w.alloc (.cells #[.pointer (some ⟨E, 0, none⟩)] 58)).alloc (.cells #[.pointer (some ⟨b, 0, none⟩)] 99)).heap.size = w.heap.size + 2 := by simp
  have hst := sortV_any (w := ((w.alloc (.cells #[.pointer (some ⟨E, 0, none⟩)] 58)).alloc (.cells #[.pointer (some ⟨b, 0, none⟩)] 99))) (c := c) (n := n) (p := p) a0 a1 (cell_later b12 e4) (H.keep (fun q _ hl => b12.block q hl)) (R.below b12) (hd.below b12) hv hA0 (by omega) hR hk (by
    rcases K with z | ⟨g, z1, z2, z3⟩
    · exact .inl z
    · exact .inr ⟨g, z1, Nat.lt_of_lt_of_le z2 b12.size, z3.keep (b12.block g z2)⟩) (fun g hg => ⟨by have := (hne g hg).1; omega, by have := (hne g hg).1; omega, (hne g hg).2⟩) h20
  have HQ := hideIt (And.intro e4 (And.intro H (And.intro R (And.intro hd (And.intro hv (And.intro hne (And.intro b12 hs2)))))))
  have HA := hideIt (And.intro a0 a1)
  clear e4 H R hd hv K hne b1 b2 b12 a0 a1 hz1 hs2
  go_enter Tryz.func23, Tryz.ntmps23
  go_wp2_with fail
  refine hst.mono ?_
  rintro e w3 ⟨rfl, K3, W3⟩
  obtain ⟨e4, H, R, hd, hv, hne, b12, hs2⟩ := HQ.out
  obtain ⟨a0, a1⟩ := HA.out
  generalize ((w.alloc (.cells #[.pointer (some ⟨E, 0, none⟩)] 58)).alloc (.cells #[.pointer (some ⟨b, 0, none⟩)] 99)) = w2 at *
  have hs3 := W3.size
  have k3 : ∀ q, q < w2.heap.size → (∀ g, p = some ⟨g, 0, none⟩ → q ≠ g) → w3.heap[q]? = w2.heap[q]? := fun q h1 h2 => W3.block q h1 (fun e => h2 q e rfl)
  have X3 : EXI w3 w.heap.size E SB mi k b n c p vals nm s d := by
    have ke : ∀ q, q < w.heap.size → (∀ g, p = some ⟨g, 0, none⟩ → q ≠ g) → w3.heap[q]? = w.heap[q]? := fun q h1 h2 => (k3 q (by omega) h2).trans (b12.block q h1)
    refine ⟨(World.cell?_of_block (a := ⟨w.heap.size, 0, none⟩) (k3 w.heap.size (by omega) (fun g hg => by have := (hne g hg).1; omega))).trans a0, (World.cell?_of_block (a := ⟨w.heap.size + 1, 0, none⟩) (k3 (w.heap.size + 1) (by omega) (fun g hg => by have := (hne g hg).1; omega))).trans a1, (World.cell?_of_block (a := ⟨E, 4, none⟩) (ke _ (World.block_lt_of_cell? _ _ e4) (fun g hg => (hne g hg).2.1))).trans e4, H.keep (fun q hq hl => ke q hl (fun g hg => (hne g hg).2.2.1 q hq)), R.blk (ke _ R.lt (fun g hg => (hne g hg).2.2.2.1)), hd.blk (fun q hq hl => ke q hl (fun g hg e => (hne g hg).2.2.2.2 (e ▸ hq))), K3⟩
  have Wa : Ws (fun q => p = some ⟨q, 0, none⟩) w w3 := (Ws.of_below b12).trans W3
  have hpl : ∀ g, p = some ⟨g, 0, none⟩ → g < w.heap.size := fun g hg => (hne g hg).1
  have hlo : w.heap.size + 2 ≤ w3.heap.size := by omega
  have H3 := hideIt (And.intro X3 (And.intro Wa (And.intro hpl hv)))
  clear X3 Wa e4 H R hd hv hne b12 hs2 a0 a1 W3 K3 k3 hst HQ HA hs3 hpl
  go_wp2_with (first | (at_make; refine wpList_make_full _ rfl _ _ 68 rfl w3.heap.size 30 i9 _ 1 Tryz.underlying68 hi9 hx0 hx1 .i64 .i64 n n n rfl rfl rfl rfl (by rw [hx2]; omega) (by unfold maxLen; omega) (Nat.le_refl _) ?_) | go_in)
  intro w4 own4 grow4
  have b4 : Below w3.heap.size w3 w4 := ⟨grow4.os, grow4.tape, grow4.output, grow4.size, fun k hk => grow4.block k hk (by simp)⟩
  have ex4 : ∀ j, j < n → w4.cell? ⟨w3.heap.size, j, none⟩ = some (.slice none 0 0) := fun j hj => by
    have e := own4.cellAt j (by omega)
    rw [made_one, List.getElem?_replicate, if_pos (by omega)] at e
    exact e
  have fz4 : ∀ o, w4.frozen? ⟨w3.heap.size, o, none⟩ = false := fun o => own4.frozenAt o
  have hG4 : w3.heap.size < w4.heap.size := (own4.lt _ rfl).2
  have H4 := hideIt (And.intro ex4 (And.intro fz4 (And.intro b4 hG4)))
  clear own4 grow4 ex4 fz4 b4 hG4
  generalize hG : w3.heap.size = G at *
  go_wp2_with fail
  go_loopg [18] n (fun gg v wr => ∃ i : Nat, i + gg = n ∧ v = .int .i64 (i : Int) ∧ (∀ j, j < n → ∃ u, wr.cell? ⟨G, j, none⟩ = some u) ∧ (∀ o, wr.frozen? ⟨G, o, none⟩ = false) ∧ Below G w3 wr ∧ G < wr.heap.size ∧ TupV wr G i s d)
  case atStart =>
    obtain ⟨ex4, fz4, b4, hG4⟩ := H4.out
    exact ⟨0, by omega, rfl, fun j hj => ⟨_, ex4 j hj⟩, fz4, b4, hG4, fun i hi => by omega⟩
  case round =>
    obtain ⟨i, hi, rfl, ex, fz, bw, hGr, hT⟩ := hrel
    by_cases hin : i < n
    · have i0 : (0 : Int) ≤ i := by omega
      have i1 : (i : Int) < (n : Int) := by omega
      obtain ⟨X3, Wa, hpl, hv⟩ := H3.out
      have Xr := X3.below (w' := wr) (by rw [hG]; exact bw)
      obtain ⟨g, rfl, hgl, KK⟩ : ∃ g, p = some ⟨g, 0, none⟩ ∧ g < wr.heap.size ∧ RowK wr g n s.rows := by
        rcases Xr.K with z | z
        · omega
        · exact z
      obtain ⟨x, hx, cx⟩ := KK.c i hin
      have x0 := Xr.x0
      have x1 := Xr.x1
      have htp := tuple_any Xr.e4 Xr.H Xr.R Xr.hd hv hA0 hA hR hk hx
      have HX := hideIt (And.intro ex (And.intro fz (And.intro bw (And.intro hGr (And.intro hT hx)))))
      clear ex fz bw hGr hT X3 Wa hpl hv Xr KK hx
      go_wp2_with fail
      refine htp.mono ?_
      rintro e w5 ⟨gt, rfl, hgt, hgt5, hct, b5⟩
      obtain ⟨ex, fz, bw, hGr, hT, hx⟩ := HX.out
      have e5 := b5.block G hGr
      obtain ⟨u, hu⟩ := ex i hin
      have k0 := (World.cell?_of_block (a := ⟨G, i, none⟩) e5).trans hu
      have f5 : ∀ o, w5.frozen? ⟨G, o, none⟩ = false := fun o => (World.frozen?_of_block (a := ⟨G, o, none⟩) e5).trans (fz o)
      have HB := hideIt (And.intro b5 (And.intro hct (And.intro hgt hgt5)))
      clear ex fz bw hGr hT hx e5 hu b5 hct hgt hgt5 htp
      go_wp2
      obtain ⟨ex, fz, bw, hGr, hT, hx⟩ := HX.out
      obtain ⟨b5, hct, hgt, hgt5⟩ := HB.out
      have e5 := b5.block G hGr
      go_roundg (n - (i + 1))
      case measure => omega
      case rel =>
        refine ⟨i + 1, by omega, by go_num, fun j hj => ?_, fun o => ?_, ?_, ?_, fun i' hi' => ?_⟩
        · obtain ⟨u, hu⟩ := ex j hj
          exact ex_set ⟨u, (World.cell?_of_block (a := ⟨G, j, none⟩) e5).trans hu⟩
        · rw [World.frozen?_setCell]; exact f5 o
        · exact below_cell (bw.trans (b5.mono (by omega))) (by omega) _
        · have := b5.size
          simp
          omega
        · have hne : gt ≠ G := by omega
          by_cases q : i' = i
          · subst q
            exact ⟨x, gt, hx, hne, by simpa using hgt5, World.cell?_setCell_same _ _ _ k0, fun t ht => (World.cell?_of_block (a := ⟨gt, t * 4 + 2, none⟩) (far_set hne)).trans (hct t ht)⟩
          · obtain ⟨r, g2, h1, h2, h3, h4, h5⟩ := hT i' (by omega)
            refine ⟨r, g2, h1, h2, by have := b5.size; simp; omega, (World.cell?_setCell_other _ _ _ _ (by simp <;> omega)).trans ((World.cell?_of_block (a := ⟨G, i', none⟩) e5).trans h4), fun t ht => ?_⟩
            exact (World.cell?_of_block (a := ⟨g2, t * 4 + 2, none⟩) (far_set h2)).trans ((World.cell?_of_block (a := ⟨g2, t * 4 + 2, none⟩) (b5.block g2 h3)).trans (h5 t ht))
    · have i1 : ¬ ((i : Int) < (n : Int)) := by omega
      have e : i = n := by omega
      subst e
      have HX := hideIt (And.intro hT bw)
      clear ex fz bw hGr hT
      go_wp2
      go_ret
      obtain ⟨hT, bw⟩ := HX.out
      obtain ⟨X3, Wa, hpl, hv⟩ := H3.out
      exact ⟨G, rfl, hT, Wa.below (by rw [hG]; exact bw)⟩
end Go.Proofs.Qxb6500880aGreat
