import Derived.Deep.CutBlock
import Derived.OwnWalk
import Derived.Test.Qxb6500877aGreatDoorIc
import Derived.Test.Qxb6500877aGreatDoorPMl0
set_option linter.unusedVariables false
set_option linter.unusedSimpArgs false
namespace Go.Proofs.Qxb6500877aGreatDoor
open Go.RowKit

/-- The cells of a list of steps. -/
def op6 (o : OpS) : List Value := [.int .u8 o.kd, .int .i64 o.a, .int .i64 o.b, .int .i64 o.c, .int .u64 o.x, .int .u64 o.y]
def opCells (L : List OpS) : List Value := L.flatMap op6
theorem opCells_snoc (L : List OpS) (o : OpS) : opCells (L ++ [o]) = opCells L ++ op6 o := by simp [opCells]
theorem opCells_len (L : List OpS) : (opCells L).length = L.length * 6 := by
  induction L with
  | nil => rfl
  | cons o L ih =>
    have e : opCells (o :: L) = op6 o ++ opCells L := by simp [opCells]
    rw [e, List.length_append, ih, List.length_cons]
    show 6 + L.length * 6 = _
    omega
theorem opCells_at : ∀ (L : List OpS) (j : Nat) (o : OpS) (i : Nat), L[j]? = some o → i < 6 → (opCells L)[j * 6 + i]? = (op6 o)[i]?
  | [], j, o, i, h, hi => by simp at h
  | q :: L, 0, o, i, h, hi => by
    simp at h
    subst h
    have e : opCells (q :: L) = op6 q ++ opCells L := by simp [opCells]
    rw [e, Nat.zero_mul, Nat.zero_add, List.getElem?_append_left (show i < (op6 q).length from hi)]
  | q :: L, j + 1, o, i, h, hi => by
    have e : opCells (q :: L) = op6 q ++ opCells L := by simp [opCells]
    have h' : L[j]? = some o := by simpa using h
    rw [e, show (j + 1) * 6 + i = (op6 q).length + (j * 6 + i) by show _ = 6 + _; omega, List.getElem?_append_right (by omega), Nat.add_sub_cancel_left]
    exact opCells_at L j o i h' hi
theorem cell_six_new (w : World) (a b c d e f : Value) (t : TypeId) : ∀ j u, [a, b, c, d, e, f][j]? = some u → (w.alloc (.cells #[a, b, c, d, e, f] t)).cell? ((⟨w.heap.size, 0, none⟩ : Addr).add j) = some u := by
  intro j u hj
  match j, hj with
  | 0, hj => simp at hj; subst hj; simp [Addr.add]
  | 1, hj => simp at hj; subst hj; simp [Addr.add]
  | 2, hj => simp at hj; subst hj; simp [Addr.add]
  | 3, hj => simp at hj; subst hj; simp [Addr.add]
  | 4, hj => simp at hj; subst hj; simp [Addr.add]
  | 5, hj => simp at hj; subst hj; simp [Addr.add]
  | j + 6, hj => simp at hj
theorem six_one (k a b c x y : Int) : ∀ u ∈ [Value.int .u8 k, .int .i64 a, .int .i64 b, .int .i64 c, .int .u64 x, .int .u64 y], u.oneCell' = true := by
  intro u hu
  simp at hu
  rcases hu with rfl | rfl | rfl | rfl | rfl | rfl <;> rfl
theorem own_shape {w : World} {base e size n : Nat} {v : Value} {xs : List Value} (h : w.ownsRow base e size v n xs) : ∃ p c, v = .slice p n c := by
  rcases h.2 with ⟨e1, e2⟩ | ⟨g, cap, cur, e1, _⟩
  · exact ⟨none, 0, by rw [e1, e2]⟩
  · exact ⟨_, _, e1⟩
def pickO (i : Nat) : OpS := ⟨0, i, 0, 0, 0, 0⟩
def delO (i : Nat) : OpS := ⟨1, i, 0, 0, 0, 0⟩
def tickO : OpS := ⟨2, 0, 0, 0, 0, 0⟩
def pickL : Nat → List OpS
  | 0 => []
  | c + 1 => pickL c ++ [pickO c]
theorem pickL_len : ∀ c, (pickL c).length = c
  | 0 => rfl
  | c + 1 => by rw [pickL, List.length_append, pickL_len c]; rfl
/-- The steps of a fair round. -/
def fairL (l : List Nat) : List OpS := (pickL 4 ++ l.map delO) ++ [tickO]
theorem fairL_len (l : List Nat) : (fairL l).length = 5 + l.length := by simp [fairL, pickL_len]; omega
theorem info32 : (Tryz.prog.info? 32).map (fun i => (i.zero, i.size, i.bytes)) = some (some (.agg #[.int .u8 0, .int .i64 0, .int .i64 0, .int .i64 0, .int .u64 0, .int .u64 0]), 6, 48) := by kernel_rfl
theorem ops_snoc {w : World} {base : Nat} {v : Value} {L : List OpS} {o : OpS} {n : Nat} (hn : L.length = n) (h : w.ownsRow base 32 6 v (n + 1) (opCells L ++ op6 o)) : w.ownsRow base 32 6 v (L ++ [o]).length (opCells (L ++ [o])) := by
  rw [opCells_snoc, List.length_append, hn]
  exact h
theorem ops_in {w : World} {base : Nat} {p : Option Addr} {c : Nat} {L : List OpS} (h : w.ownsRow base 32 6 (.slice p L.length c) L.length (opCells L)) (hL : L ≠ []) : ∃ g, p = some ⟨g, 0, none⟩ ∧ base ≤ g ∧ g < w.heap.size ∧ L.length ≤ c ∧ ∀ j (hj : j < L.length), OpCs w g (0 + j * 6) L[j] := by
  have hlt := h.lt
  have hcs := fun g e => World.ownsRow.cells (g := g) h e
  rcases h.2 with ⟨e1, e2⟩ | ⟨g, cap, cur, e1, hb, _, hcap, _⟩
  · exact absurd (List.eq_nil_of_length_eq_zero e2) hL
  · simp only [Value.slice.injEq] at e1
    obtain ⟨rfl, _, rfl⟩ := e1
    refine ⟨g, rfl, hb, (hlt g rfl).2, hcap, fun j hj => ?_⟩
    have at_ : ∀ i, i < 6 → ∀ u, (op6 L[j])[i]? = some u → w.cell? ⟨g, 0 + j * 6 + i, none⟩ = some u := fun i hi u hu => by
      have := hcs g rfl (j * 6 + i) u (by rw [opCells_at L j L[j] i (List.getElem?_eq_getElem hj) hi]; exact hu)
      have e : (⟨g, 0, none⟩ : Addr).add (j * 6 + i) = ⟨g, 0 + j * 6 + i, none⟩ := by simp [Addr.add]; omega
      rw [e] at this
      exact this
    exact ⟨at_ 0 (by omega) _ rfl, at_ 1 (by omega) _ rfl, at_ 2 (by omega) _ rfl, at_ 3 (by omega) _ rfl, at_ 4 (by omega) _ rfl, at_ 5 (by omega) _ rfl⟩
set_option maxRecDepth 20000 in
set_option maxHeartbeats 8000000 in
theorem fair_any {w : World} {B b : Nat} (hc : w.cell? ⟨B, 6595, none⟩ = some (.int .u16 (b : Int))) (T : Tab32 w) (hb : b < 65536) :
    Calls Tryz.prog 52 #[.pointer (some ⟨B, 0, none⟩)] w fun e w' => ∃ (v : Value) (l : List Nat), e = .returned v ∧ w'.ownsRow w.heap.size 32 6 v (fairL l).length (opCells (fairL l)) ∧ (l.Nodup ∧ ∀ i, i ∈ l ↔ i < 16 ∧ b.testBit i = true) ∧ Below w.heap.size w w' := by
  have hne := nonEmpty_any hc T hb
  obtain ⟨i0_, hi_, hzz, hz1, hz2⟩ := info_parts info32
  have hlB : B < w.heap.size := World.block_lt_of_cell? _ _ hc
  go_enter Tryz.func52, Tryz.ntmps52
  go_wp2_with fail
  refine hne.mono ?_
  rintro e w1 ⟨v, l, rfl, hown0, hl, hb1⟩
  have hl16 : l.length ≤ 16 := nodup_le 16 l hl.1 (fun x hx => ((hl.2 x).1 hx).1)
  have HL := hideIt hl
  clear hl hne
  obtain ⟨p, c, rfl⟩ := own_shape hown0
  have hs1 := hb1.size
  have hw1 : ∀ w3 : World, w1.grownBy w3 none → Below w1.heap.size w1 w3 := fun w3 hg => below_grown (Below.refl _ _) hg (Nat.le_refl _) (fun k hk => by simp at hk)
  have HW1 := hideIt hw1
  clear hw1
  have k1 : IntKind.i64.wrap (4 + (l.length : Int)) = ((4 + l.length : Nat) : Int) := by rw [IntKind.wrap_i64]; omega
  have k2 : IntKind.i64.wrap (((4 + l.length : Nat) : Int) + 1) = ((5 + l.length : Nat) : Int) := by rw [IntKind.wrap_i64]; omega
  have hkx : ∃ q4 q5 : Nat, q4 = 4 + l.length ∧ q5 = 5 + l.length := ⟨_, _, rfl, rfl⟩
  obtain ⟨q4, q5, f4, f5⟩ := hkx
  rw [← f4] at k1 k2
  rw [← f5] at k2
  have hq5 : q5 ≤ 21 := by omega
  have HQ := hideIt (And.intro f4 f5)
  clear f4 f5
  go_upto_region 3 with (first | (at_make; refine wpList_make_own _ rfl _ _ 22 rfl w1.heap.size 32 i0_ (.agg #[.int .u8 0, .int .i64 0, .int .i64 0, .int .i64 0, .int .u64 0, .int .u64 0]) 6 Tryz.underlying22 hi_ hzz hz1 .i64 .i64 (q5 : Int) q5 rfl rfl rfl (by rw [hz2]; omega) (by unfold maxLen; omega) (Nat.le_refl _) ?_; intro w3 hown3 hgrow3; have hb3 := HW1.out w3 hgrow3; clear hgrow3) | go_in)
  go_wp2_with fail
  go_loopg [4, 5] 4 (fun gg v4 v5 wr => ∃ c : Nat, c + gg = 4 ∧ v5 = .int .i64 (c : Int) ∧ wr.ownsRow w1.heap.size 32 6 v4 c (opCells (pickL c)) ∧ Below w1.heap.size w1 wr)
  case atStart => exact ⟨0, by omega, rfl, hown3, hb3⟩
  case round =>
    clear hown3 hb3
    obtain ⟨c, hcg, rfl, hown, hbw⟩ := hrel
    have hsr : w1.heap.size ≤ wr.heap.size := hbw.size
    have hr : ∀ k, u4.ownBlock = some k → w1.heap.size ≤ k := fun k hk => (hown.lt k hk).1
    by_cases hc4 : c < 4
    · have c0 : (0 : Int) ≤ c := by omega
      have c1 : (c : Int) < 4 := by omega
      go_wp2_with (first | (at_builtin; refine wpList_append_own _ rfl (.tmp 21) (.tmp 24) 22 rfl w1.heap.size 32 i0_ (.agg #[.int .u8 0, .int .i64 0, .int .i64 0, .int .i64 0, .int .u64 0, .int .u64 0]) 6 48 Tryz.underlying22 hi_ hzz hz1 hz2 rfl (by decide) _ (c) (opCells (pickL c)) rfl (hown.alloc _) ⟨wr.heap.size, 0, none⟩ 1 1 [.int .u8 0, .int .i64 (c : Int), .int .i64 0, .int .i64 0, .int .u64 0, .int .u64 0] rfl rfl (cell_six_new _ _ _ _ _ _ _ _) (six_one _ _ _ _ _ _) (by unfold maxLen; omega) (by omega) (by simp; omega) ?_; intro v' w3 hown' hgrow3 _; have hb2 : Below w1.heap.size w1 w3 := below_grown (hbw.trans ((one_alloc wr _).mono hsr)) hgrow3 (by simp; omega) hr; clear hgrow3) | go_in)
      go_roundg (4 - (c + 1))
      case measure => omega
      case rel => exact ⟨c + 1, by omega, by go_num, by have := ops_snoc (o := pickO c) (pickL_len c) hown'; rw [List.length_append, pickL_len] at this; exact this, hb2⟩
    · have e : c = 4 := by omega
      subst e
      go_wp2_with fail
      go_loopg [28, 4] l.length (fun gg v28 v4 wr => ∃ j : Nat, j + gg = l.length ∧ v28 = .int .i64 (j : Int) ∧ wr.ownsRow w1.heap.size 32 6 v4 (4 + j) (opCells (pickL 4 ++ (l.take j).map delO)) ∧ Below w1.heap.size w1 wr)
      case atStart => exact ⟨0, by omega, rfl, by rw [List.take_zero, List.map_nil, List.append_nil]; exact hown, hbw⟩
      case round =>
        clear hown hbw hsr hr
        obtain ⟨j, hjg, rfl, hown, hbw⟩ := hrel
        have hsr : w1.heap.size ≤ wr.heap.size := hbw.size
        have hr : ∀ k, u4.ownBlock = some k → w1.heap.size ≤ k := fun k hk => (hown.lt k hk).1
        have hlen : (pickL 4 ++ (l.take j).map delO).length = 4 + j := by rw [List.length_append, pickL_len, List.length_map, List.length_take]; omega
        have HLEN := hideIt hlen
        clear hlen
        by_cases hj : j < l.length
        · have j0 : (0 : Int) ≤ j := by omega
          have j1 : (j : Int) < (l.length : Int) := by omega
          have hbx : ∃ b, l[j]? = some b := ⟨l[j], List.getElem?_eq_getElem hj⟩
          obtain ⟨x, hbj⟩ := hbx
          have hcx := fun g e => World.ownsRow.cells (g := g) hown0 e j (.int .i64 (x : Int)) (by rw [numCells, List.getElem?_map, hbj]; rfl)
          rcases hown0.2 with ⟨_, e2⟩ | ⟨g, cap, cur, e1, hbg, _, _⟩
          · exact absurd e2 (by omega)
          simp only [Value.slice.injEq] at e1
          obtain ⟨rfl, _, rfl⟩ := e1
          have hlg : g < w1.heap.size := (hown0.lt g rfl).2
          have tj := cell_later hbw (hcx g rfl)
          rw [show (⟨g, 0, none⟩ : Addr).add j = ⟨g, j, none⟩ by simp [Addr.add]; intro h; exact h.symm] at tj
          have HB := hideIt hbj
          clear hbj hcx
          go_wp2_with (first | (at_builtin; refine wpList_append_own _ rfl (.tmp 32) (.tmp 35) 22 rfl w1.heap.size 32 i0_ (.agg #[.int .u8 0, .int .i64 0, .int .i64 0, .int .i64 0, .int .u64 0, .int .u64 0]) 6 48 Tryz.underlying22 hi_ hzz hz1 hz2 rfl (by decide) _ (4 + j) (opCells (pickL 4 ++ (l.take j).map delO)) rfl (hown.alloc _) ⟨wr.heap.size, 0, none⟩ 1 1 [.int .u8 1, .int .i64 (x : Int), .int .i64 0, .int .i64 0, .int .u64 0, .int .u64 0] rfl rfl (cell_six_new _ _ _ _ _ _ _ _) (six_one _ _ _ _ _ _) (by unfold maxLen; omega) (by omega) (by simp; omega) ?_; intro v' w3 hown' hgrow3 _; have hb2 : Below w1.heap.size w1 w3 := below_grown (hbw.trans ((one_alloc wr _).mono hsr)) hgrow3 (by simp; omega) hr; clear hgrow3) | go_in)
          go_roundg (l.length - (j + 1))
          case measure => omega
          case rel =>
            refine ⟨j + 1, by omega, by go_num, ?_, hb2⟩
            have := ops_snoc (o := delO x) HLEN.out hown'
            rw [List.length_append, HLEN.out] at this
            rw [List.take_add_one, HB.out, List.map_append, ← List.append_assoc]
            exact this
        · have e : j = l.length := by omega
          subst e
          go_wp2_with (first | (at_builtin; refine wpList_append_own _ rfl (.tmp 38) (.tmp 40) 22 rfl w1.heap.size 32 i0_ (.agg #[.int .u8 0, .int .i64 0, .int .i64 0, .int .i64 0, .int .u64 0, .int .u64 0]) 6 48 Tryz.underlying22 hi_ hzz hz1 hz2 rfl (by decide) _ (4 + l.length) (opCells (pickL 4 ++ (l.take l.length).map delO)) rfl (hown.alloc _) ⟨wr.heap.size, 0, none⟩ 1 1 [.int .u8 2, .int .i64 0, .int .i64 0, .int .i64 0, .int .u64 0, .int .u64 0] rfl rfl (cell_six_new _ _ _ _ _ _ _ _) (six_one _ _ _ _ _ _) (by unfold maxLen; omega) (by omega) (by simp; omega) ?_; intro v' w3 hown' hgrow3 _; have hb2 : Below w1.heap.size w1 w3 := below_grown (hbw.trans ((one_alloc wr _).mono hsr)) hgrow3 (by simp; omega) hr; clear hgrow3) | go_in)
          go_ret
          refine ⟨v', l, rfl, ?_, HL.out, hb1.trans (hb2.mono hs1)⟩
          have := ops_snoc (o := tickO) HLEN.out hown'
          rw [List.take_length] at this
          exact ⟨this.1, this.2.imp id (fun ⟨g, cap, cur, h1, h2, h3⟩ => ⟨g, cap, cur, h1, Nat.le_trans hs1 h2, h3⟩)⟩
end Go.Proofs.Qxb6500877aGreatDoor
