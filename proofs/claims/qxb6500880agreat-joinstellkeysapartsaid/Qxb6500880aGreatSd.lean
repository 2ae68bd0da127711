import Derived.Deep.CutBlock
import Derived.OwnWalk
import Derived.Maps.AppendAt
import Derived.Maps.OwnSet
import Derived.Maps.OwnOps
import Derived.Laws.ResultCell
import Derived.Laws.AppendOwnNone
import Derived.Lib.ReflectliteSwap
import Derived.Lib.ReflectliteSlice
import Derived.Laws.Externs
import Derived.Test.Qxb6500880aGreatSc
set_option linter.unusedVariables false
set_option linter.unusedSimpArgs false
namespace Go.Proofs.Qxb6500880aGreat
open Go.RowKit

open Go.Lib in
theorem swap_any {w : World} {g n c i j : Nat} {x y : Value} (hi : i < n) (hj : j < n) (hx : x.oneCell' = true) (hy : y.oneCell' = true) (cx : w.cell? ⟨g, i, none⟩ = some x) (cy : w.cell? ⟨g, j, none⟩ = some y) (fz : ∀ o, w.frozen? ⟨g, o, none⟩ = false) :
    (callFunc 92 #[.int .i64 (i : Int), .int .i64 (j : Int), .slice (some ⟨g, 0, none⟩) n c, typeHandle Tryz.prog 3]).run Tryz.prog w = .ok (.value (.tuple #[])) ((w.setCell ⟨g, i, none⟩ y).setCell ⟨g, j, none⟩ x) := by
  obtain ⟨i3, hi3, hz0, hz1, hz2⟩ := info_parts info3
  rw [run_callFunc_extern Tryz.func92 (by kernel_rfl) (by kernel_rfl) (by kernel_rfl) (e := Extern.ReflectliteSwapper.swap true) (by kernel_rfl)]
  have := run_swap_one (P := Tryz.prog) true 3 i3 hi3 hz1 (fun w => by kernel_rfl) g 0 n c i j hi hj x y hx hy w (by simpa using cx) (by simpa using cy) (by simpa using fz i) (by simpa using fz j)
  rw [this]
  simp [Result.andThen]
/-- A row of numbers below K. -/
structure RowK (w : World) (g n K : Nat) : Prop where
  c : ∀ t, t < n → ∃ x : Nat, x < K ∧ w.cell? ⟨g, t, none⟩ = some (.int .i64 (x : Int))
  fz : ∀ o, w.frozen? ⟨g, o, none⟩ = false
theorem RowK.keep {w w' : World} {g n K : Nat} (h : RowK w g n K) (e : w'.heap[g]? = w.heap[g]?) : RowK w' g n K := ⟨fun t ht => by
  obtain ⟨x, h1, h2⟩ := h.c t ht
  exact ⟨x, h1, (World.cell?_of_block (a := ⟨g, t, none⟩) e).trans h2⟩, fun o => (World.frozen?_of_block (a := ⟨g, o, none⟩) e).trans (h.fz o)⟩
theorem RowK.put {w : World} {g n K : Nat} (h : RowK w g n K) {j x : Nat} (hx : x < K) : RowK (w.setCell ⟨g, j, none⟩ (.int .i64 (x : Int))) g n K := ⟨fun t ht => by
  obtain ⟨y, h1, h2⟩ := h.c t ht
  by_cases q : t = j
  · subst q; exact ⟨x, hx, World.cell?_setCell_same _ _ _ h2⟩
  · exact ⟨y, h1, (World.cell?_setCell_other _ _ _ _ (by simp <;> omega)).trans h2⟩, fun o => (World.frozen?_setCell _ _ _ _).trans (h.fz o)⟩
/-- What the sort asks of 'less' and of all that must stay. -/
structure SrtH (I : World → Prop) (g n K LX SX : Nat) : Prop where
  b : ∀ w w', I w → Below w.heap.size w w' → I w'
  s : ∀ w o v, I w → I (w.setCell ⟨g, o, none⟩ v)
  l : ∀ w i j, I w → RowK w g n K → g < w.heap.size → i < n → j < n → Calls Tryz.prog 53 #[.int .i64 (i : Int), .int .i64 (j : Int), .pointer (some ⟨LX, 0, none⟩), .pointer (some ⟨SX, 0, none⟩)] w fun e w' => (∃ q, e = .returned (.bool q)) ∧ Below w.heap.size w w'
set_option maxRecDepth 20000 in
set_option maxHeartbeats 8000000 in
theorem insertion_any {w : World} {g n c K LX SX : Nat} {I : World → Prop} (H : SrtH I g n K LX SX) (hI : I w) (R : RowK w g n K) (hg : g < w.heap.size) (hn : n ≤ 1000) :
    Calls Tryz.prog 97 #[.agg #[(.func (.func 53) #[] #[.pointer (some ⟨LX, 0, none⟩), .pointer (some ⟨SX, 0, none⟩)]), (.func (.func 92) #[] #[.slice (some ⟨g, 0, none⟩) n c, typeHandle Tryz.prog 3])], .int .i64 0, .int .i64 (n : Int)] w fun e w' => e = .returned (.tuple #[]) ∧ I w' ∧ RowK w' g n K ∧ Wr g w w' := by
  have bA := one_alloc w (.cells #[(.func (.func 53) #[] #[.pointer (some ⟨LX, 0, none⟩), .pointer (some ⟨SX, 0, none⟩)]), (.func (.func 92) #[] #[.slice (some ⟨g, 0, none⟩) n c, typeHandle Tryz.prog 3])] 212)
  have a0 : (w.alloc (.cells #[(.func (.func 53) #[] #[.pointer (some ⟨LX, 0, none⟩), .pointer (some ⟨SX, 0, none⟩)]), (.func (.func 92) #[] #[.slice (some ⟨g, 0, none⟩) n c, typeHandle Tryz.prog 3])] 212)).cell? ⟨w.heap.size, 0, none⟩ = some (.func (.func 53) #[] #[.pointer (some ⟨LX, 0, none⟩), .pointer (some ⟨SX, 0, none⟩)]) := by simp
  have a1 : (w.alloc (.cells #[(.func (.func 53) #[] #[.pointer (some ⟨LX, 0, none⟩), .pointer (some ⟨SX, 0, none⟩)]), (.func (.func 92) #[] #[.slice (some ⟨g, 0, none⟩) n c, typeHandle Tryz.prog 3])] 212)).cell? ⟨w.heap.size, 1, none⟩ = some (.func (.func 92) #[] #[.slice (some ⟨g, 0, none⟩) n c, typeHandle Tryz.prog 3]) := by simp
  have hA : w.heap.size < (w.alloc (.cells #[(.func (.func 53) #[] #[.pointer (some ⟨LX, 0, none⟩), .pointer (some ⟨SX, 0, none⟩)]), (.func (.func 92) #[] #[.slice (some ⟨g, 0, none⟩) n c, typeHandle Tryz.prog 3])] 212)).heap.size := by simp
  have HQ := hideIt (And.intro (H.b _ _ hI bA) (And.intro (R.keep (bA.block g hg)) (And.intro (Wr.of_below bA : Wr g w _) (And.intro H (And.intro a0 a1)))))
  clear bA a0 a1 H hI R
  go_enter Tryz.func97, Tryz.ntmps97
  go_wp2_with fail
  generalize w.alloc (.cells #[(.func (.func 53) #[] #[.pointer (some ⟨LX, 0, none⟩), .pointer (some ⟨SX, 0, none⟩)]), (.func (.func 92) #[] #[.slice (some ⟨g, 0, none⟩) n c, typeHandle Tryz.prog 3])] 212) = w1 at *
  go_loopg [6] n (fun gg v wr => ∃ i : Nat, 1 ≤ i ∧ n + 1 ≤ i + gg ∧ i ≤ n + 1 ∧ v = .int .i64 (i : Int) ∧ I wr ∧ RowK wr g n K ∧ Wr g w1 wr)
  case atStart =>
    obtain ⟨hI, R, W, H, a0, a1⟩ := HQ.out
    exact ⟨1, by omega, by omega, by omega, rfl, hI, R, Wr.refl _ _⟩
  case round =>
  obtain ⟨i, hi1, hi2, hi3, rfl, hI, R, W⟩ := hrel
  by_cases hin : i < n
  · have i1 : (i : Int) < (n : Int) := by omega
    have HR := hideIt (And.intro hI (And.intro R W))
    clear hI R W
    obtain ⟨w2, hw2⟩ : ∃ w2, w2 = wr := ⟨_, rfl⟩
    subst hw2
    go_wp2_with fail
    go_loopg [7] i (fun gg v wr => ∃ j : Nat, j = gg ∧ j ≤ i ∧ v = .int .i64 (j : Int) ∧ I wr ∧ RowK wr g n K ∧ Wr g w1 wr)
    case atStart => exact ⟨i, rfl, Nat.le_refl _, rfl, HR.out⟩
    case round =>
      obtain ⟨j, hj, hji, rfl, hI, R, W⟩ := hrel
      by_cases hj0 : j = 0
      · subst hj0
        have HR2 := hideIt (And.intro hI (And.intro R W))
        clear hI R W HR
        go_wp2
        go_roundg (n - i)
        case measure => omega
        case rel => exact ⟨i + 1, by omega, by omega, by omega, by go_num, HR2.out⟩
      · have j0 : (j : Int) > 0 := by omega
        have j0' : (0 : Int) < (j : Int) := by omega
        obtain ⟨hI1, R1, W1, H, a0, a1⟩ := HQ.out
        obtain ⟨j', hj'⟩ : ∃ j', j' + 1 = j := ⟨j - 1, by omega⟩
        have hjw : (j : Int) - 1 = (j' : Int) := by omega
        have HJ := hideIt hj
        clear hj
        have hgl : g < wr.heap.size := Nat.lt_of_lt_of_le (Nat.lt_trans hg hA) W.size
        have hne : w.heap.size ≠ g := by omega
        have b0 := (World.cell?_of_block (a := ⟨w.heap.size, 0, none⟩) (W.block w.heap.size hA hne)).trans a0
        have b1 := (World.cell?_of_block (a := ⟨w.heap.size, 1, none⟩) (W.block w.heap.size hA hne)).trans a1
        have hl := H.l wr j j' hI R hgl (by omega) (by omega)
        have HR2 := hideIt (And.intro hI (And.intro R (And.intro W (And.intro hj' hgl))))
        clear hI R W HR hI1 R1 W1 H a0 a1
        go_wp2_with fail
        refine hl.mono ?_
        rintro e w3 ⟨⟨q, rfl⟩, b3⟩
        obtain ⟨hI, R, W, hj', hgl⟩ := HR2.out
        obtain ⟨_, _, _, H, _, _⟩ := HQ.out
        have I3 := H.b _ _ hI b3
        have R3 := R.keep (b3.block g hgl)
        have W3 := W.below b3
        have c1 := cell_later b3 b1
        have HJ2 := hideIt hj'
        clear hl b0 b1 hI R W hgl H hj'
        cases q
        · have HR3 := hideIt (And.intro I3 (And.intro R3 W3))
          clear I3 R3 W3 HR2 c1 b3
          go_wp2
          go_roundg (n - i)
          case measure => omega
          case rel => exact ⟨i + 1, by omega, by omega, by omega, by go_num, HR3.out⟩
        · have hj2 := HJ2.out
          obtain ⟨x, hx, cx⟩ := R3.c j (by omega)
          obtain ⟨y, hy, cy⟩ := R3.c j' (by omega)
          have hsw := swap_any (c := c) (show j < n by omega) (show j' < n by omega) rfl rfl cx cy R3.fz
          have HR3 := hideIt (And.intro I3 (And.intro R3 (And.intro W3 (And.intro hx hy))))
          clear I3 R3 W3 HR2 b3 hx hy hj2
          go_wp2
          obtain ⟨I3, R3, W3, hx, hy⟩ := HR3.out
          obtain ⟨_, _, _, H, _, _⟩ := HQ.out
          go_roundg j'
          case measure => have := HJ.out; have := HJ2.out; omega
          case rel => exact ⟨j', rfl, by have := HJ2.out; omega, by go_num, H.s _ _ _ (H.s _ _ _ I3), (R3.put hy).put hx, W3.set.set⟩
  · have i1 : ¬ ((i : Int) < (n : Int)) := by omega
    have HR := hideIt (And.intro hI (And.intro R W))
    clear hI R W
    go_wp2
    go_end0
    obtain ⟨hI, R, W⟩ := HR.out
    exact ⟨rfl, hI, R, HQ.out.2.2.1.trans W⟩
end Go.Proofs.Qxb6500880aGreat
