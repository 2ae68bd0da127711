import Derived.Deep.CutBlock
import Derived.OwnWalk
import Derived.Maps.AppendAt
import Derived.Test.Qxb6500880aGreatG
import Derived.Test.Qxb6500880aGreatC
set_option linter.unusedVariables false
set_option linter.unusedSimpArgs false
namespace Go.Proofs.Qxb6500880aGreat
open Go.RowKit

/-- n variables in memory, the j-th of number f j. -/
def TermsAt (w : World) (v : Value) (n : Nat) (f : Nat → Nat) : Prop := ∃ p c, v = .slice p n c ∧ n ≤ c ∧ (n = 0 ∨ ∃ g, p = some ⟨g, 0, none⟩ ∧ ∀ j, j < n → w.cell? ⟨g, j * 4, none⟩ = some (.int .u8 0) ∧ w.cell? ⟨g, j * 4 + 1, none⟩ = some (.int .i64 (f j : Int)) ∧ w.cell? ⟨g, j * 4 + 2, none⟩ = some (.int .i64 0) ∧ w.cell? ⟨g, j * 4 + 3, none⟩ = some (.string ByteArray.empty))
theorem TermsAt.keep {w w' : World} {v : Value} {n : Nat} {f : Nat → Nat} (h : TermsAt w v n f) (hk : ∀ q, v.ownBlock = some q → q < w.heap.size → w'.heap[q]? = w.heap[q]?) : TermsAt w' v n f := by
  obtain ⟨p, c, rfl, hc, h⟩ := h
  refine ⟨p, c, rfl, hc, ?_⟩
  rcases h with h | ⟨g, rfl, h⟩
  · exact .inl h
  · refine .inr ⟨g, rfl, fun j hj => ?_⟩
    obtain ⟨a, b, c, d⟩ := h j hj
    have e := hk g rfl (World.block_lt_of_cell? _ _ a)
    exact ⟨(World.cell?_of_block (a := ⟨g, j * 4, none⟩) e).trans a, (World.cell?_of_block (a := ⟨g, j * 4 + 1, none⟩) e).trans b, (World.cell?_of_block (a := ⟨g, j * 4 + 2, none⟩) e).trans c, (World.cell?_of_block (a := ⟨g, j * 4 + 3, none⟩) e).trans d⟩
theorem TermsAt.below {w w' : World} {v : Value} {n : Nat} {f : Nat → Nat} (h : TermsAt w v n f) (hb : Below w.heap.size w w') : TermsAt w' v n f := h.keep (fun q _ hq => hb.block q hq)
/-- n operands in memory, the j-th the register f j. -/
def OpsAt (w : World) (v : Value) (n : Nat) (f : Nat → Nat) : Prop := ∃ p c, v = .slice p n c ∧ n ≤ c ∧ (n = 0 ∨ ∃ g, p = some ⟨g, 0, none⟩ ∧ ∀ j, j < n → w.cell? ⟨g, j * 2, none⟩ = some (.int .i64 (f j : Int)) ∧ w.cell? ⟨g, j * 2 + 1, none⟩ = some (.int .u32 0) ∧ ∀ o, w.frozen? ⟨g, o, none⟩ = false)
theorem OpsAt.keep {w w' : World} {v : Value} {n : Nat} {f : Nat → Nat} (h : OpsAt w v n f) (hk : ∀ q, v.ownBlock = some q → q < w.heap.size → w'.heap[q]? = w.heap[q]?) : OpsAt w' v n f := by
  obtain ⟨p, c, rfl, hc, h⟩ := h
  refine ⟨p, c, rfl, hc, ?_⟩
  rcases h with h | ⟨g, rfl, h⟩
  · exact .inl h
  · refine .inr ⟨g, rfl, fun j hj => ?_⟩
    obtain ⟨a, b, d⟩ := h j hj
    have e := hk g rfl (World.block_lt_of_cell? _ _ a)
    exact ⟨(World.cell?_of_block (a := ⟨g, j * 2, none⟩) e).trans a, (World.cell?_of_block (a := ⟨g, j * 2 + 1, none⟩) e).trans b, fun o => (World.frozen?_of_block (a := ⟨g, o, none⟩) e).trans (d o)⟩
theorem OpsAt.below {w w' : World} {v : Value} {n : Nat} {f : Nat → Nat} (h : OpsAt w v n f) (hb : Below w.heap.size w w') : OpsAt w' v n f := h.keep (fun q _ hq => hb.block q hq)
/-- n truth values in block g. -/
structure BoolAt (w : World) (g n : Nat) (b : Nat → Bool) : Prop where
  c : ∀ j, j < n → w.cell? ⟨g, j, none⟩ = some (.bool (b j))
  fz : ∀ o, w.frozen? ⟨g, o, none⟩ = false
theorem BoolAt.blk {w w' : World} {g n : Nat} {b : Nat → Bool} (h : BoolAt w g n b) (e : w'.heap[g]? = w.heap[g]?) : BoolAt w' g n b :=
  ⟨fun j hj => (World.cell?_of_block (a := ⟨g, j, none⟩) e).trans (h.c j hj), fun o => (World.frozen?_of_block (a := ⟨g, o, none⟩) e).trans (h.fz o)⟩
def onB (b : Nat → Bool) (r : Nat) : Nat → Bool := fun x => if x = r then true else b x
theorem BoolAt.put {w : World} {g n r : Nat} {b : Nat → Bool} (h : BoolAt w g n b) (hr : r < n) : BoolAt (w.setCell ⟨g, r, none⟩ (.bool true)) g n (onB b r) := by
  refine ⟨fun j hj => ?_, fun o => (World.frozen?_setCell _ _ _ _).trans (h.fz o)⟩
  unfold onB
  by_cases q : j = r
  · subst q
    rw [if_pos rfl]
    exact World.cell?_setCell_same _ _ _ (h.c j hj)
  · rw [if_neg q, World.cell?_setCell_other _ _ _ _ (by simp <;> omega)]
    exact h.c j hj
def fillF (b : Nat → Bool) (f : Nat → Nat) : Nat → Nat → Bool
  | 0 => b
  | i + 1 => onB (fillF b f i) (f i)
set_option maxRecDepth 20000 in
set_option maxHeartbeats 8000000 in
theorem termsFine_any {w : World} {v : Value} {n : Nat} {f : Nat → Nat} (H : TermsAt w v n f) (hn : n ≤ 1000) : Calls Tryz.prog 20 #[v] w fun e w' => e = .returned (.bool true) ∧ Below w.heap.size w w' := by
  obtain ⟨p, c, rfl, hc, H⟩ := H
  have HH := hideIt H
  clear H
  go_enter Tryz.func20, Tryz.ntmps20
  go_wp2_with fail
  go_loopg [7] n (fun g v wr => ∃ i : Nat, i + g = n ∧ v = .int .i64 (i : Int) ∧ Below w.heap.size w wr)
  case atStart => exact ⟨0, by omega, rfl, Below.refl _ _⟩
  case round =>
    obtain ⟨i, hi, rfl, hb⟩ := hrel
    by_cases hin : i < n
    · have i0 : (0 : Int) ≤ i := by omega
      have i1 : (i : Int) < (n : Int) := by omega
      obtain ⟨g, rfl, hz⟩ : ∃ g, p = some ⟨g, 0, none⟩ ∧ ∀ j, j < n → w.cell? ⟨g, j * 4, none⟩ = some (.int .u8 0) ∧ w.cell? ⟨g, j * 4 + 1, none⟩ = some (.int .i64 (f j : Int)) ∧ w.cell? ⟨g, j * 4 + 2, none⟩ = some (.int .i64 0) ∧ w.cell? ⟨g, j * 4 + 3, none⟩ = some (.string ByteArray.empty) := by
        rcases HH.out with h | ⟨g, e, h⟩
        · omega
        · exact ⟨g, e, h⟩
      obtain ⟨a0, a1, a2, a3⟩ := hz i hin
      have b0 := cell_later hb a0
      have b1 := cell_later hb a1
      have b2 := cell_later hb a2
      have b3 := cell_later hb a3
      have htf := fun w => termFine_any (f i) w
      unfold tVar at htf
      obtain ⟨x, HX⟩ : ∃ x, Hid (f i = x) := ⟨_, hideIt rfl⟩
      rw [HX.out] at b1 htf
      clear a0 a1 a2 a3 hz
      go_wp2_with fail
      refine (htf _).mono ?_
      rintro e w2 ⟨rfl, hb2⟩
      have HB := hideIt (then_ (one_alloc wr (.cells #[.int .u8 0, .int .i64 (x : Int), .int .i64 0, .string ByteArray.empty] 26)) hb2)
      clear hb2 htf
      go_wp2
      go_roundg (n - (i + 1))
      case measure => omega
      case rel => exact ⟨i + 1, by omega, by go_num, then_ hb HB.out⟩
    · have e : i = n := by omega
      subst e
      go_wp2
      go_ret
      exact ⟨rfl, hb⟩
set_option maxRecDepth 20000 in
set_option maxHeartbeats 8000000 in
theorem known_any {w : World} {g n r : Nat} {b : Nat → Bool} (H : BoolAt w g n b) (hr : r < n) (hn : n ≤ 1000) : Calls Tryz.prog 79 #[.agg #[.int .i64 (r : Int), .int .u32 0], .slice (some ⟨g, 0, none⟩) n n] w fun e w' => e = .returned (.bool (b r)) ∧ Below w.heap.size w w' := by
  have hc := cell_later (one_alloc w (.cells #[.int .i64 (r : Int), .int .u32 0] 136)) (H.c r hr)
  obtain ⟨x, hx⟩ : ∃ x, b r = x := ⟨_, rfl⟩
  rw [hx] at hc ⊢
  have r0 : (0 : Int) ≤ r := by omega
  have r1 : (r : Int) < (n : Int) := by omega
  have r2 : ((r : Int) == -1) = false := by simp
  have HC : ∀ cs, (w.alloc (.cells cs 136)).cell? ⟨g, r, none⟩ = some (.bool x) := fun cs => by rw [← hx]; exact cell_later (one_alloc w _) (H.c r hr)
  clear H hc hx
  go_enter Tryz.func79, Tryz.ntmps79
  go_wp2
  go_ret
  exact ⟨rfl, one_alloc _ _⟩
set_option maxRecDepth 20000 in
set_option maxHeartbeats 8000000 in
theorem allFilled_nil {w : World} {v : Value} {p : Option Addr} {c : Nat} : Calls Tryz.prog 43 #[v, .slice p 0 c] w fun e w' => e = .returned (.bool true) ∧ w' = w := by
  go_enter Tryz.func43, Tryz.ntmps43
  go_wp2_with fail
  go_loopg [9] 0 (fun g v wr => v = .int .i64 0 ∧ wr = w)
  case atStart => exact ⟨rfl, rfl⟩
  case round =>
    obtain ⟨rfl, rfl⟩ := hrel
    go_wp2
    go_ret
    exact ⟨rfl, rfl⟩
set_option maxRecDepth 20000 in
set_option maxHeartbeats 8000000 in
theorem fill_any {w : World} {g n m : Nat} {b : Nat → Bool} {v : Value} {f : Nat → Nat} (H : BoolAt w g n b) (HO : OpsAt w v m f) (hf : ∀ j, j < m → f j < n) (hg : v.ownBlock ≠ some g) (hgl : g < w.heap.size) (hn : n ≤ 1000) (hm : m ≤ 1000) :
    Calls Tryz.prog 42 #[.slice (some ⟨g, 0, none⟩) n n, v] w fun e w' => e = .returned (.tuple #[]) ∧ BoolAt w' g n (fillF b f m) ∧ Wr g w w' := by
  obtain ⟨p, c, rfl, hc, HO⟩ := HO
  have HH := hideIt HO
  have HF := hideIt hf
  have HG := hideIt hg
  clear HO hf hg
  go_enter Tryz.func42, Tryz.ntmps42
  go_wp2_with fail
  go_loopg [8] m (fun gg v wr => ∃ i : Nat, i + gg = m ∧ v = .int .i64 (i : Int) ∧ BoolAt wr g n (fillF b f i) ∧ Wr g w wr)
  case atStart => exact ⟨0, by omega, rfl, H, Wr.refl _ _⟩
  case round =>
    clear H
    obtain ⟨i, hi, rfl, H, W⟩ := hrel
    by_cases hin : i < m
    · have i0 : (0 : Int) ≤ i := by omega
      have i1 : (i : Int) < (m : Int) := by omega
      obtain ⟨q, hq, rfl, a0, a1⟩ : ∃ q, q ≠ g ∧ p = some ⟨q, 0, none⟩ ∧ w.cell? ⟨q, i * 2, none⟩ = some (.int .i64 (f i : Int)) ∧ w.cell? ⟨q, i * 2 + 1, none⟩ = some (.int .u32 0) := by
        rcases HH.out with h | ⟨q, e, h⟩
        · omega
        · exact ⟨q, fun z => HG.out (by rw [e, z]; rfl), e, (h i hin).1, (h i hin).2.1⟩
      have hql : q < w.heap.size := World.block_lt_of_cell? _ _ a0
      have eb := W.block q hql hq
      have b0 := (World.cell?_of_block (a := ⟨q, i * 2, none⟩) eb).trans a0
      have b1 := (World.cell?_of_block (a := ⟨q, i * 2 + 1, none⟩) eb).trans a1
      have hfi := HF.out i hin
      obtain ⟨x, HX⟩ : ∃ x, Hid (f i = x) := ⟨_, hideIt rfl⟩
      rw [HX.out] at b0 hfi
      have x0 : (0 : Int) ≤ x := by omega
      have x1 : (x : Int) < (n : Int) := by omega
      have x2 : ((x : Int) != -1) = true := by simp
      have hgw := Nat.lt_of_lt_of_le hgl W.size
      have hgne : ¬ (wr.heap.size = g) := by omega
      have hgne' : ¬ (g = wr.heap.size) := by omega
      have H1 := H.blk ((one_alloc wr (.cells #[.int .i64 (x : Int), .int .u32 0] 136)).block g hgw)
      have hcx := H1.c x hfi
      have fz := H1.fz
      have HQ := hideIt (And.intro H W)
      clear a0 a1 H W H1
      go_wp2
      go_roundg (m - (i + 1))
      case measure => omega
      case rel =>
        obtain ⟨H1, W⟩ := HQ.out
        refine ⟨i + 1, by omega, by go_num, ?_, W.set.below (one_alloc _ _)⟩
        show BoolAt _ g n (onB (fillF b f i) (f i))
        rw [HX.out]
        exact (H1.put hfi).blk ((one_alloc _ _).block g (by simpa using hgw))
    · have e : i = m := by omega
      subst e
      go_wp2
      go_end0
      exact ⟨rfl, H, W⟩
end Go.Proofs.Qxb6500880aGreat
