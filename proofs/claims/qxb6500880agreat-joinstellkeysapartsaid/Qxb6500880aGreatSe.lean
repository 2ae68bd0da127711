import Derived.Deep.CutBlock
import Derived.OwnWalk
import Derived.Maps.AppendAt
import Derived.Maps.OwnSet
import Derived.Maps.OwnOps
import Derived.Laws.ResultCell
import Derived.Laws.AppendOwnNone
import Derived.Lib.ReflectliteSwap
import Derived.Lib.ReflectliteSlice
import Derived.Laws.Externs
import Derived.Test.Qxb6500880aGreatSd
set_option linter.unusedVariables false
set_option linter.unusedSimpArgs false
namespace Go.Proofs.Qxb6500880aGreat
open Go.RowKit

set_option maxRecDepth 20000 in
set_option maxHeartbeats 8000000 in
theorem insertion_tiny {w : World} {n f2 LX SX : Nat} {bv : Array Value} (hn : n ≤ 1) :
    Calls Tryz.prog 97 #[.agg #[(.func (.func 53) #[] #[.pointer (some ⟨LX, 0, none⟩), .pointer (some ⟨SX, 0, none⟩)]), (.func (.func f2) #[] bv)], .int .i64 0, .int .i64 (n : Int)] w fun e w' => e = .returned (.tuple #[]) ∧ Below w.heap.size w w' := by
  have bA := hideIt (one_alloc w (.cells #[(.func (.func 53) #[] #[.pointer (some ⟨LX, 0, none⟩), .pointer (some ⟨SX, 0, none⟩)]), (.func (.func f2) #[] bv)] 212))
  have h1 : ¬ ((1 : Int) < (n : Int)) := by omega
  have h2 : (n : Int) ≤ 1 := by omega
  go_enter Tryz.func97, Tryz.ntmps97
  go_wp2_with fail
  generalize w.alloc (.cells #[(.func (.func 53) #[] #[.pointer (some ⟨LX, 0, none⟩), .pointer (some ⟨SX, 0, none⟩)]), (.func (.func f2) #[] bv)] 212) = w1 at *
  go_loopg [6] 0 (fun gg v wr => v = .int .i64 1 ∧ wr = w1)
  case atStart => exact ⟨rfl, rfl⟩
  case round =>
    obtain ⟨rfl, ew⟩ := hrel
    replace ew := ew.symm
    subst ew
    go_wp2
    go_end0
    exact ⟨rfl, bA.out⟩
set_option maxRecDepth 20000 in
set_option maxHeartbeats 8000000 in
theorem stable_any {w : World} {n f2 LX SX : Nat} {bv : Array Value} {Post : World → Prop} (hn : n < 20)
    (hins : Calls Tryz.prog 97 #[.agg #[(.func (.func 53) #[] #[.pointer (some ⟨LX, 0, none⟩), .pointer (some ⟨SX, 0, none⟩)]), (.func (.func f2) #[] bv)], .int .i64 0, .int .i64 (n : Int)] (w.alloc (.cells #[(.func (.func 53) #[] #[.pointer (some ⟨LX, 0, none⟩), .pointer (some ⟨SX, 0, none⟩)]), (.func (.func f2) #[] bv)] 212)) fun e w' => e = .returned (.tuple #[]) ∧ Post w') :
    Calls Tryz.prog 70 #[.agg #[(.func (.func 53) #[] #[.pointer (some ⟨LX, 0, none⟩), .pointer (some ⟨SX, 0, none⟩)]), (.func (.func f2) #[] bv)], .int .i64 (n : Int)] w fun e w' => e = .returned (.tuple #[]) ∧ Post w' := by
  have a0 : (w.alloc (.cells #[(.func (.func 53) #[] #[.pointer (some ⟨LX, 0, none⟩), .pointer (some ⟨SX, 0, none⟩)]), (.func (.func f2) #[] bv)] 212)).cell? ⟨w.heap.size, 0, none⟩ = some (.func (.func 53) #[] #[.pointer (some ⟨LX, 0, none⟩), .pointer (some ⟨SX, 0, none⟩)]) := by simp
  have a1 : (w.alloc (.cells #[(.func (.func 53) #[] #[.pointer (some ⟨LX, 0, none⟩), .pointer (some ⟨SX, 0, none⟩)]), (.func (.func f2) #[] bv)] 212)).cell? ⟨w.heap.size, 1, none⟩ = some (.func (.func f2) #[] bv) := by simp
  have h1 : ¬ ((20 : Int) ≤ (n : Int)) := by omega
  have h2 : ¬ ((20 : Int) < (n : Int)) := by omega
  go_enter Tryz.func70, Tryz.ntmps70
  go_wp2_with fail
  generalize w.alloc (.cells #[(.func (.func 53) #[] #[.pointer (some ⟨LX, 0, none⟩), .pointer (some ⟨SX, 0, none⟩)]), (.func (.func f2) #[] bv)] 212) = w1 at *
  go_loopg [5, 6] 0 (fun gg v5 v6 wr => v5 = .int .i64 0 ∧ v6 = .int .i64 20 ∧ wr = w1)
  case atStart => exact ⟨rfl, rfl, rfl⟩
  case round =>
    obtain ⟨rfl, rfl, ew⟩ := hrel
    replace ew := ew.symm
    subst ew
    go_wp2_with fail
    refine hins.mono ?_
    rintro e w2 ⟨rfl, hp⟩
    have HP := hideIt hp
    clear hp hins a0 a1
    go_wp2_with fail
    go_loopg [4] 0 (fun gg v4 wr => v4 = .int .i64 20 ∧ wr = w2)
    case atStart => exact ⟨rfl, rfl⟩
    case round =>
      obtain ⟨rfl, ew⟩ := hrel
      replace ew := ew.symm
      subst ew
      go_wp2
      go_end0
      exact ⟨rfl, HP.out⟩
end Go.Proofs.Qxb6500880aGreat
