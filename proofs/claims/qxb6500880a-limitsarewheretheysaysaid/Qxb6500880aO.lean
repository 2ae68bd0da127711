import Derived.Deep.CutBlock
import Derived.OwnWalk
import Derived.Maps.AppendAt
import Derived.Maps.OwnSet
import Derived.Maps.OwnOps
import Derived.Laws.ResultCell
import Derived.Test.Qxb6500880aN
set_option linter.unusedVariables false
set_option linter.unusedSimpArgs false
namespace Go.Proofs.Qxb6500880a
open Go.RowKit

theorem jC_len (rb : Nat) (l : Nat → Value) : ∀ m, (jC rb l m).length = m * 3
  | 0 => rfl
  | m + 1 => by
    unfold jC
    rw [List.length_append, jC_len rb l m]
    simp
    omega
theorem jC_get (rb : Nat) (l : Nat → Value) : ∀ m j, j < m → (jC rb l m)[j * 3]? = some (.pointer (some ⟨rb, 0, none⟩)) ∧ (jC rb l m)[j * 3 + 1]? = some (l j) ∧ (jC rb l m)[j * 3 + 2]? = some (.int .i64 (j : Int))
  | 0, j, h => by omega
  | m + 1, j, h => by
    have hl := jC_len rb l m
    unfold jC
    by_cases q : j < m
    · obtain ⟨a, b, c⟩ := jC_get rb l m j q
      rw [List.getElem?_append_left (by omega), List.getElem?_append_left (by omega), List.getElem?_append_left (by omega)]
      exact ⟨a, b, c⟩
    · have e : j = m := by omega
      subst e
      rw [List.getElem?_append_right (by omega), List.getElem?_append_right (by omega), List.getElem?_append_right (by omega), hl, show j * 3 - j * 3 = 0 by omega, show j * 3 + 1 - j * 3 = 1 by omega, show j * 3 + 2 - j * 3 = 2 by omega]
      exact ⟨rfl, rfl, rfl⟩
/-- The joins of a rule in memory. -/
def JnAt (w : World) (J : Value) (rb : Nat) (l : Nat → Value) (m : Nat) : Prop := ∃ p c, J = .slice p m c ∧ m ≤ c ∧ (m = 0 ∨ ∃ g, p = some ⟨g, 0, none⟩ ∧ ∀ j, j < m → w.cell? ⟨g, j * 3, none⟩ = some (.pointer (some ⟨rb, 0, none⟩)) ∧ w.cell? ⟨g, j * 3 + 1, none⟩ = some (l j) ∧ w.cell? ⟨g, j * 3 + 2, none⟩ = some (.int .i64 (j : Int)))
theorem add0 (g n : Nat) : (⟨g, 0, none⟩ : Addr).add n = ⟨g, n, none⟩ := by
  by_cases q : n = 0
  · subst q; simp [Addr.add]
  · simp [Addr.add, q]
theorem JnAt.of_own {w : World} {base m rb : Nat} {J : Value} {l : Nat → Value} (h : w.ownsRow base 92 3 J m (jC rb l m)) : JnAt w J rb l m := by
  have hc := fun g e => World.ownsRow.cells (g := g) h e
  rcases h.2 with ⟨e1, e2⟩ | ⟨g, cap, cur, e1, _, _, r⟩
  · exact ⟨none, 0, by rw [e1, e2], by omega, .inl e2⟩
  · refine ⟨_, cap, e1, r.1, .inr ⟨g, rfl, fun j hj => ?_⟩⟩
    obtain ⟨a, b, c⟩ := jC_get rb l m j hj
    have a' := hc g (by rw [e1]; rfl) _ _ a
    have b' := hc g (by rw [e1]; rfl) _ _ b
    have c' := hc g (by rw [e1]; rfl) _ _ c
    rw [add0] at a' b' c'
    exact ⟨a', b', c'⟩
theorem JnAt.keep {w w' : World} {J : Value} {rb m : Nat} {l : Nat → Value} (h : JnAt w J rb l m) (hk : ∀ q, J.ownBlock = some q → q < w.heap.size → w'.heap[q]? = w.heap[q]?) : JnAt w' J rb l m := by
  obtain ⟨p, c, rfl, hc, h⟩ := h
  refine ⟨p, c, rfl, hc, ?_⟩
  rcases h with h | ⟨g, rfl, h⟩
  · exact .inl h
  · refine .inr ⟨g, rfl, fun j hj => ?_⟩
    obtain ⟨a, b, d⟩ := h j hj
    have e := hk g rfl (World.block_lt_of_cell? _ _ a)
    exact ⟨(World.cell?_of_block (a := ⟨g, j * 3, none⟩) e).trans a, (World.cell?_of_block (a := ⟨g, j * 3 + 1, none⟩) e).trans b, (World.cell?_of_block (a := ⟨g, j * 3 + 2, none⟩) e).trans d⟩
theorem JnAt.below {w w' : World} {J : Value} {rb m : Nat} {l : Nat → Value} (h : JnAt w J rb l m) (hb : Below w.heap.size w w') : JnAt w' J rb l m := h.keep (fun q _ hq => hb.block q hq)
/-- A compiled rule: its head has no arguments, its m joins have n each. -/
structure RuAt (w : World) (RB hb rb n m : Nat) (F : Nat → Nat → Nat) (R : Nat) : Prop where
  c : ∃ hp hc J l, (w.cell? ⟨RB, 0, none⟩ = some (.int .i64 0) ∧ w.cell? ⟨RB, 1, none⟩ = some (.pointer (some ⟨hb, 0, none⟩)) ∧ w.cell? ⟨RB, 2, none⟩ = some (.slice hp 0 hc) ∧ w.cell? ⟨RB, 3, none⟩ = some (.int .i64 (-1)) ∧ w.cell? ⟨RB, 4, none⟩ = some J ∧ w.cell? ⟨RB, 5, none⟩ = some (.slice none 0 0) ∧ w.cell? ⟨RB, 6, none⟩ = some (.slice none 0 0) ∧ w.cell? ⟨RB, 7, none⟩ = some (.int .i64 (R : Int))) ∧ JnAt w J rb l m ∧ ∀ j, j < m → OpsAt w (l j) n (F j)
  fz : ∀ o, w.frozen? ⟨RB, o, none⟩ = false
  r : ∀ j t, j < m → t < n → F j t < R
theorem RuAt.below {w w' : World} {RB hb rb n m R : Nat} {F : Nat → Nat → Nat} (h : RuAt w RB hb rb n m F R) (hb' : Below w.heap.size w w') : RuAt w' RB hb rb n m F R := by
  obtain ⟨⟨hp, hc, J, l, ⟨a0, a1, a2, a3, a4, a5, a6, a7⟩, j, o⟩, fz, r⟩ := h
  have hl : RB < w.heap.size := World.block_lt_of_cell? _ _ a0
  exact ⟨⟨hp, hc, J, l, ⟨cell_later hb' a0, cell_later hb' a1, cell_later hb' a2, cell_later hb' a3, cell_later hb' a4, cell_later hb' a5, cell_later hb' a6, cell_later hb' a7⟩, j.below hb', fun k hk => (o k hk).below hb'⟩, fun o => (World.frozen?_of_block (a := ⟨RB, o, none⟩) (hb'.block RB hl)).trans (fz o), r⟩
theorem info4 : (Try.prog.info? 4).map (fun i => (i.zero, i.size, i.bytes)) = some (some (.bool false), 1, 1) := by kernel_rfl
theorem Wr.below_of {g : Nat} {w w1 : World} (h : Wr g w w1) (hg : w.heap.size ≤ g) : Below w.heap.size w w1 := ⟨h.os, h.tape, h.output, h.size, fun q hq => h.block q hq (by omega)⟩
set_option maxRecDepth 20000 in
set_option maxHeartbeats 8000000 in
theorem safe_any {w : World} {RB hb rb n m R : Nat} {F : Nat → Nat → Nat} (U : RuAt w RB hb rb n m F R) (hn : n ≤ 100) (hn0 : 0 < n) (hm : m ≤ 100) (hR : R ≤ 1000) :
    Calls Try.prog 24 #[.pointer (some ⟨RB, 0, none⟩)] w fun e w' => e = .returned (.tuple #[.int .i64 0, .bool true]) ∧ Below w.heap.size w w' := by
  obtain ⟨i0_, hi_, hz0, hz1, hz2⟩ := info_parts info4
  obtain ⟨⟨hp, hc, J, l, ⟨a0, a1, a2, a3, a4, a5, a6, a7⟩, HJ, HO⟩, fz, hr⟩ := U
  have hl : RB < w.heap.size := World.block_lt_of_cell? _ _ a0
  obtain ⟨pj, cj, ej, hcj, HJ'⟩ := HJ
  have HJ : JnAt w J rb l m := ⟨pj, cj, ej, hcj, HJ'⟩
  clear HJ'
  subst ej
  have HQ := hideIt (And.intro HJ (And.intro HO hr))
  clear HJ HO hr a0 a1 a3 a6 fz
  go_enter Try.func24, Try.ntmps24
  go_wp2_with (first | (at_make; refine wpList_make_full _ rfl _ _ 122 rfl w.heap.size 4 i0_ _ 1 Try.underlying122 hi_ hz0 hz1 .i64 .i64 (R : Int) (R : Int) R rfl rfl rfl rfl (by rw [hz2]; omega) (by unfold maxLen; omega) (Nat.le_refl _) ?_) | go_in)
  intro w3 hown3 hgrow3
  have hb3 : Below w.heap.size w w3 := ⟨hgrow3.os, hgrow3.tape, hgrow3.output, hgrow3.size, fun k hk => hgrow3.block k hk (by simp)⟩
  have hg3 : w.heap.size < w3.heap.size := (hown3.lt w.heap.size rfl).2
  have B3 : BoolAt w3 w.heap.size R (fun _ => false) := by
    refine ⟨fun j hj => ?_, fun o => hown3.frozenAt o⟩
    have e := hown3.cellAt j (by omega)
    rw [made_one, List.getElem?_replicate, if_pos hj] at e
    exact e
  have k4 := cell_later hb3 a4
  have HB3 := hideIt (And.intro hb3 (And.intro hg3 B3))
  have HA := hideIt (And.intro a2 (And.intro a5 a7))
  clear hown3 hgrow3 hb3 hg3 B3 a2 a4 a5 a7
  go_wp2_with fail
  go_loopg [19] m (fun gg v wr => ∃ i : Nat, i + gg = m ∧ v = .int .i64 (i : Int) ∧ (∃ b, BoolAt wr w.heap.size R b) ∧ Below w.heap.size w wr ∧ w.heap.size < wr.heap.size)
  case atStart =>
    obtain ⟨hb3, hg3, B3⟩ := HB3.out
    exact ⟨0, by omega, rfl, ⟨_, B3⟩, hb3, hg3⟩
  case round =>
    clear HB3 k4
    obtain ⟨i, hi, rfl, ⟨b, HB⟩, hbw, hgr⟩ := hrel
    by_cases him : i < m
    · have i0 : (0 : Int) ≤ i := by omega
      have i1 : (i : Int) < (m : Int) := by omega
      obtain ⟨g, rfl, c0, c1, c2⟩ : ∃ g, pj = some ⟨g, 0, none⟩ ∧ w.cell? ⟨g, i * 3, none⟩ = some (.pointer (some ⟨rb, 0, none⟩)) ∧ w.cell? ⟨g, i * 3 + 1, none⟩ = some (l i) ∧ w.cell? ⟨g, i * 3 + 2, none⟩ = some (.int .i64 (i : Int)) := by
        obtain ⟨p, c, e, _, h⟩ := HQ.out.1
        simp only [Value.slice.injEq] at e
        obtain ⟨rfl, _, rfl⟩ := e
        rcases h with h | ⟨g, e, h⟩
        · omega
        · exact ⟨g, e, h i him⟩
      have HOi := HQ.out.2.1 i him
      obtain ⟨pa, ca, ea, hca, HO'⟩ := HOi
      have HOi : OpsAt w (l i) n (F i) := ⟨pa, ca, ea, hca, HO'⟩
      clear HO'
      rw [ea] at c1 HOi
      have d0 := cell_later hbw c0
      have d1 := cell_later hbw c1
      have d2 := cell_later hbw c2
      have hne : (Value.slice pa n ca).ownBlock ≠ some w.heap.size := fun hq => by
        obtain ⟨p, c, e, _, h⟩ := HOi
        simp only [Value.slice.injEq] at e
        obtain ⟨rfl, _, rfl⟩ := e
        rcases h with h | ⟨g, e, h⟩
        · omega
        · rw [e] at hq
          have e2 : g = w.heap.size := Option.some.inj hq
          have e3 : g < w.heap.size := World.block_lt_of_cell? _ _ (h 0 (by omega)).1
          omega
      have bA := one_alloc wr (.cells #[.pointer (some ⟨rb, 0, none⟩), .slice pa n ca, .int .i64 (i : Int)] 92)
      have hfl := fill_any (HB.blk (bA.block _ hgr)) ((HOi.below hbw).below bA) (fun j hj => HQ.out.2.2 i j him hj) hne (Nat.lt_of_lt_of_le hgr bA.size) hR (by omega)
      have HBW := hideIt (And.intro hbw bA)
      clear HB HOi hne c0 c1 c2 hbw bA
      go_wp2_with fail
      refine hfl.mono ?_
      rintro e w4 ⟨rfl, HB4, W4⟩
      have HQ4 := hideIt (And.intro HB4 W4)
      clear HB4 W4 hfl
      go_wp2
      go_roundg (m - (i + 1))
      case measure => omega
      case rel =>
        obtain ⟨HB4, W4⟩ := HQ4.out
        obtain ⟨hbw, bA⟩ := HBW.out
        have h1 := then_ hbw bA
        have hs4 := W4.size
        have hsA := bA.size
        refine ⟨i + 1, by omega, by go_num, ⟨_, HB4⟩, ?_, by omega⟩
        exact ⟨W4.os.trans h1.os, W4.tape.trans h1.tape, W4.output.trans h1.output, Nat.le_trans h1.size hs4, fun q hq => (W4.block q (by have := h1.size; omega) (by omega)).trans (h1.block q hq)⟩
    · have e : i = m := by omega
      subst e
      obtain ⟨a2, a5, a7⟩ := HA.out
      have b2 := cell_later hbw a2
      have b5 := cell_later hbw a5
      have haf := allFilled_nil (w := wr) (v := .slice (some ⟨w.heap.size, 0, none⟩) R R) (p := hp) (c := hc)
      clear a2 a5 a7
      go_wp2_with fail
      refine haf.mono ?_
      rintro e w5 ⟨rfl, hw5⟩
      rw [hw5]
      clear hw5 haf
      go_wp2_with fail
      go_loopg [41] 0 (fun g v wx => v = .int .i64 0 ∧ wx = wr)
      case atStart => exact ⟨rfl, rfl⟩
      case round =>
        obtain ⟨rfl, rfl⟩ := hrel
        go_wp2
        go_ret2
        exact ⟨rfl, hbw⟩
end Go.Proofs.Qxb6500880a
