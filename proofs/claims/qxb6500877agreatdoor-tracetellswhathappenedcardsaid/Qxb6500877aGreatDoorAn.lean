import Derived.Deep.CutBlock
import Derived.OwnWalk
import Derived.Maps.AppendAt
import Derived.Test.Qxb6500877aGreatDoorAm
set_option linter.unusedVariables false
set_option linter.unusedSimpArgs false
namespace Go.Proofs.Qxb6500877aGreatDoor
open Go.RowKit

/-- The clock's saturating sum, in the model. -/
def plusI (a b : Int) : Int := if a + b < 18446744073709551616 then a + b else 18446744073709551615
theorem plus_any {a b : Int} (ha : 0 ≤ a ∧ a < 18446744073709551616) (hb : 0 ≤ b ∧ b < 18446744073709551616) (w : World) : Calls Tryz.prog 80 #[.int .u64 a, .int .u64 b] w fun e w' => e = .returned (.int .u64 (plusI a b)) ∧ w' = w := by
  by_cases h : a + b < 18446744073709551616
  · have hw : IntKind.u64.wrap (a + b) = a + b := by rw [IntKind.wrap_u64]; omega
    have hd : decide (a + b < a) = false := decide_eq_false (by omega)
    have e : plusI a b = a + b := if_pos h
    rw [e]
    clear h ha hb e
    go_enter Tryz.func80, Tryz.ntmps80
    go_wp2
    go_ret
    exact ⟨rfl, rfl⟩
  · have hw : IntKind.u64.wrap (a + b) = a + b - 18446744073709551616 := by rw [IntKind.wrap_u64]; omega
    have hd : decide (a + b - 18446744073709551616 < a) = true := decide_eq_true (by omega)
    have e : plusI a b = 18446744073709551615 := if_neg h
    rw [e]
    clear h ha hb e
    go_enter Tryz.func80, Tryz.ntmps80
    go_wp2
    go_ret
    exact ⟨rfl, rfl⟩
def fourV (t : TmR) : Value := .agg #[.int .u64 t.id, .int .i64 t.core, .int .u64 t.dl, .int .u64 t.ck]
theorem fclos_any {w : World} {b : Nat} {x : Int} (t : TmR) (hx : w.cell? ⟨b, 0, none⟩ = some (.int .u64 x)) :
    Calls Tryz.prog 197 #[fourV t, .pointer (some ⟨b, 0, none⟩)] w fun e w' => e = .returned (.bool (t.id == x)) ∧ Below w.heap.size w w' := by
  have hbl := World.block_lt_of_cell? _ _ hx
  unfold fourV
  go_enter Tryz.func197, Tryz.ntmps197
  go_wp2
  go_ret
  exact ⟨rfl, one_alloc w _⟩
/-- Where the timer of id x lies in the list; -1: nowhere. -/
def FndIs (l : List TmR) (x v : Int) : Prop := (∃ (j : Nat) (t : TmR), l[j]? = some t ∧ t.id = x ∧ v = j ∧ ∀ s ∈ l.take j, s.id ≠ x) ∨ (v = -1 ∧ ∀ t ∈ l, t.id ≠ x)
theorem row_four {w : World} {base n cap : Nat} {p : Option Addr} {l : List TmR} (h : w.ownsRow base 84 4 (.slice p n cap) n (tmCells l)) {j : Nat} {t : TmR} (hj : l[j]? = some t) : ∃ g, p = some ⟨g, 0, none⟩ ∧ w.cell? ⟨g, j * 4, none⟩ = some (.int .u64 t.id) ∧ w.cell? ⟨g, j * 4 + 1, none⟩ = some (.int .i64 t.core) ∧ w.cell? ⟨g, j * 4 + 2, none⟩ = some (.int .u64 t.dl) ∧ w.cell? ⟨g, j * 4 + 3, none⟩ = some (.int .u64 t.ck) := by
  obtain ⟨a0, a1, a2, a3⟩ := tmCells_at l j t hj
  rcases h.2 with ⟨e1, e2⟩ | ⟨g, cap', cur, e1, _⟩
  · exfalso
    have hl := h.1
    have hlt : j * 4 < (tmCells l).length := (List.getElem?_eq_some_iff.1 a0).1
    rw [e2] at hl
    omega
  · simp only [Value.slice.injEq] at e1
    obtain ⟨rfl, _, _⟩ := e1
    have key : ∀ k u, (tmCells l)[k]? = some u → w.cell? ⟨g, k, none⟩ = some u := fun k u hu => by
      have := h.cells (g := g) rfl k u hu
      have e2 : (⟨g, 0, none⟩ : Addr).add k = ⟨g, k, none⟩ := by simp [Addr.add]; intro h; exact h.symm
      rw [e2] at this
      exact this
    exact ⟨g, rfl, key _ _ a0, key _ _ a1, key _ _ a2, key _ _ a3⟩
set_option maxHeartbeats 4000000 in
theorem findFunc_any {w : World} {base n cap b : Nat} {p : Option Addr} {l : List TmR} {x : Int} (H : w.ownsRow base 84 4 (.slice p n cap) n (tmCells l)) (hn : n = l.length) (hbig : n ≤ 1000) (hx : w.cell? ⟨b, 0, none⟩ = some (.int .u64 x)) :
    Calls Tryz.prog 196 #[.slice p n cap, .func (.func 197) #[] #[.pointer (some ⟨b, 0, none⟩)]] w fun e w' => ∃ v, e = .returned (.int .i64 v) ∧ FndIs l x v ∧ Below w.heap.size w w' := by
  have hbl := World.block_lt_of_cell? _ _ hx
  go_enter Tryz.func196, Tryz.ntmps196
  have HI := hideIt H
  have HN := hideIt hn
  clear H hn
  go_wp2_with fail
  go_loopg [8] n (fun gg v wr => ∃ j : Nat, j + gg = n ∧ v = .int .i64 (j : Int) ∧ Hid (Below w.heap.size w wr) ∧ Hid (∀ s ∈ l.take j, s.id ≠ x))
  case atStart => exact ⟨0, by omega, rfl, hideIt (Below.refl _ _), hideIt (by simp)⟩
  case round =>
    obtain ⟨j, hjg, rfl, HB, HD⟩ := hrel
    by_cases hj : j < n
    · have j0 : (0 : Int) ≤ j := by omega
      have j1 : (j : Int) < (n : Int) := by omega
      have hbx : ∃ t, l[j]? = some t := ⟨l[j]'(by rw [← HN.out]; exact hj), List.getElem?_eq_getElem _⟩
      obtain ⟨t, htj⟩ := hbx
      have hc := row_four HI.out htj
      obtain ⟨g, hp, c0, c1, c2, c3⟩ := hc
      have hg := World.block_lt_of_cell? _ _ c0
      have hgb := HB.out.block g hg
      have c0 := (World.cell?_of_block (a := ⟨g, j * 4, none⟩) hgb).trans c0
      have c1 := (World.cell?_of_block (a := ⟨g, j * 4 + 1, none⟩) hgb).trans c1
      have c2 := (World.cell?_of_block (a := ⟨g, j * 4 + 2, none⟩) hgb).trans c2
      have c3 := (World.cell?_of_block (a := ⟨g, j * 4 + 3, none⟩) hgb).trans c3
      have hx' := (World.cell?_of_block (a := ⟨b, 0, none⟩) (HB.out.block b hbl)).trans hx
      have hf := fclos_any t hx'
      unfold fourV at hf
      have hz := HB.out.size
      clear hgb hx'
      subst hp
      have HT := hideIt htj
      clear htj
      by_cases hxb : t.id = x
      · have he : (t.id == x) = true := beq_iff_eq.2 hxb
        rw [he] at hf
        have HX := hideIt hxb
        clear hxb he
        go_wp2_with fail
        refine hf.mono ?_
        rintro e w2 ⟨rfl, hb2⟩
        have HB2 := hideIt hb2
        clear hb2 hf
        go_wp2
        go_ret
        exact ⟨j, rfl, .inl ⟨j, t, HT.out, HX.out, rfl, HD.out⟩, HB.out.trans (HB2.out.mono hz)⟩
      · have he : (t.id == x) = false := beq_eq_false_iff_ne.2 hxb
        rw [he] at hf
        have HX := hideIt hxb
        clear hxb he
        go_wp2_with fail
        refine hf.mono ?_
        rintro e w2 ⟨rfl, hb2⟩
        have HB2 := hideIt hb2
        clear hb2 hf
        go_wp2
        go_roundg (n - (j + 1))
        case measure => omega
        case rel =>
          refine ⟨j + 1, by omega, by go_num, hideIt (HB.out.trans (HB2.out.mono hz)), hideIt ?_⟩
          rw [List.take_add_one, HT.out]
          simp only [Option.toList_some, List.mem_append, List.mem_singleton]
          rintro s (hs | rfl)
          · exact HD.out s hs
          · exact HX.out
    · have e : j = n := by omega
      subst e
      have hn : ∀ s ∈ l, s.id ≠ x := by
        have := HD.out
        rw [HN.out, List.take_length] at this
        exact this
      have HE := hideIt hn
      clear hn
      go_wp2
      go_ret
      exact ⟨-1, rfl, .inr ⟨rfl, HE.out⟩, HB.out⟩
set_option maxHeartbeats 4000000 in
theorem findTimer_any {w : World} {D base : Nat} {V : Nat → Value} {m : Mdl} (H : MdlAt w D base V m) (hbig : m.tm.length ≤ 1000) (x : Int) :
    Calls Tryz.prog 158 #[.pointer (some ⟨D, 0, none⟩), .int .u64 x] w fun e w' => ∃ v, e = .returned (.int .i64 v) ∧ FndIs m.tm x v ∧ Below w.heap.size w w' := by
  have hDl := H.dlt
  have hb0 := one_alloc w (.cells #[.int .u64 x] 36)
  have H1 := H.below hb0
  obtain ⟨s0, hown⟩ := H1.trow
  obtain ⟨pv, cap, ev⟩ := own_shape hown
  rw [ev] at s0 hown
  have hff := findFunc_any (b := w.heap.size) (x := x) hown rfl hbig (by simp)
  generalize m.tm.length = n at *
  have HB0 := hideIt hb0
  clear hown hb0 H1
  go_enter Tryz.func158, Tryz.ntmps158
  go_wp2_with fail
  refine hff.mono ?_
  rintro e w2 ⟨v, rfl, hv, hb2⟩
  have HV := hideIt (And.intro hv hb2)
  clear hv hb2 hff
  go_wp2
  go_ret
  exact ⟨v, rfl, HV.out.1, HB0.out.trans (HV.out.2.mono HB0.out.size)⟩
end Go.Proofs.Qxb6500877aGreatDoor
