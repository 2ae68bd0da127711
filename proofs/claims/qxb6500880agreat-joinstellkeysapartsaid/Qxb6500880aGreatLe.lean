import Derived.Deep.CutBlock
import Derived.OwnWalk
import Derived.Maps.AppendAt
import Derived.Maps.OwnSet
import Derived.Maps.OwnOps
import Derived.Laws.ResultCell
import Derived.Test.Qxb6500880aGreatLd
set_option linter.unusedVariables false
set_option linter.unusedSimpArgs false
namespace Go.Proofs.Qxb6500880aGreat
open Go.RowKit

/-- The texts of a list of terms can be read. -/
def TrmIn (w : World) (p : Option Addr) (n : Nat) : Prop := n ≤ 9223372036854775807 ∧ (n = 0 ∨ ∃ g off, p = some ⟨g, off, none⟩ ∧ ∀ j, j < n → ∃ s, w.cell? ⟨g, off + j * 4 + 3, none⟩ = some (.string s))
/-- A step of the script can be read. -/
structure OpIn (w : World) (g o : Nat) : Prop where
  k : ∃ x : Int, w.cell? ⟨g, o, none⟩ = some (.int .u8 x)
  s : ∃ s, w.cell? ⟨g, o + 1, none⟩ = some (.string s)
  t : ∃ p n c, w.cell? ⟨g, o + 2, none⟩ = some (.slice p n c) ∧ TrmIn w p n
  c3 : ∃ x : Int, w.cell? ⟨g, o + 3, none⟩ = some (.int .u8 x)
  c4 : ∃ x : Int, w.cell? ⟨g, o + 4, none⟩ = some (.int .u8 x)
  c5 : ∃ x : Int, w.cell? ⟨g, o + 5, none⟩ = some (.int .u8 x)
  s6 : ∃ s, w.cell? ⟨g, o + 6, none⟩ = some (.string s)
  t7 : ∃ p n c, w.cell? ⟨g, o + 7, none⟩ = some (.slice p n c) ∧ TrmIn w p n
  c8 : ∃ x : Int, w.cell? ⟨g, o + 8, none⟩ = some (.int .u64 x)
/-- The script can be read. -/
def ScrIn (w : World) (p : Option Addr) (n : Nat) : Prop := n = 0 ∨ ∃ g off, p = some ⟨g, off, none⟩ ∧ ∀ i, i < n → OpIn w g (off + i * 9)
structure SmallO (n : Nat) (w : World) (e : Ending) (w' : World) : Prop where
  o : ∃ b, e = .returned (.bool b) ∧ w' = w ∧ (b = true → n ≤ 65536)
set_option maxRecDepth 20000 in
set_option maxHeartbeats 8000000 in
theorem small_any {w : World} {p : Option Addr} {n c : Nat} (S : ScrIn w p n) :
    Calls Tryz.prog 4 #[.slice p n c] w fun e w' => SmallO n w e w' := by
  have HS := hideIt S
  clear S
  by_cases hn : n ≤ 65536
  · have h1 : ¬ ((n : Int) > 65536) := by omega
    go_enter Tryz.func4, Tryz.ntmps4
    go_wp2_with fail
    go_loopg [4, 3] n (fun gg v v3 wr => ∃ (i : Nat) (z : Int), i + gg = n ∧ v = .int .i64 (i : Int) ∧ v3 = .int .i64 z ∧ wr = w)
    case atStart => exact ⟨0, (n : Int), by omega, rfl, rfl, rfl⟩
    case round =>
    obtain ⟨i, z, hi, rfl, rfl, rfl⟩ := hrel
    by_cases hin : i < n
    · have i0 : (0 : Int) ≤ i := by omega
      have i1 : (i : Int) < (n : Int) := by omega
      obtain ⟨g, off, rfl, hO⟩ : ∃ g off, p = some ⟨g, off, none⟩ ∧ OpIn wr g (off + i * 9) := by
        rcases HS.out with h | ⟨g, off, e, h⟩
        · omega
        · exact ⟨g, off, e, h i hin⟩
      obtain ⟨s1, c1⟩ := hO.s
      obtain ⟨p2, n2, k2, c2, T2⟩ := hO.t
      obtain ⟨s6, c6⟩ := hO.s6
      obtain ⟨p7, n7, k7, c7, T7⟩ := hO.t7
      have HT := hideIt (And.intro T2 T7)
      clear hO T2 T7
      by_cases z1 : 65536 < wrap64 (z + (s1.size : Int))
      · go_wp2
        go_ret
        exact ⟨false, rfl, rfl, (fun h => by cases h)⟩
      by_cases z2 : 65536 < wrap64 (wrap64 (z + (s1.size : Int)) + (n2 : Int))
      · go_wp2
        go_ret
        exact ⟨false, rfl, rfl, (fun h => by cases h)⟩
      go_wp2_with fail
      obtain ⟨wo, hwo⟩ : ∃ wo, wo = wr := ⟨_, rfl⟩
      subst hwo
      go_loopg [5, 3] n2 (fun gg v v3 wr' => ∃ (j : Nat) (y : Int), j + gg = n2 ∧ v = .int .i64 (j : Int) ∧ v3 = .int .i64 y ∧ wr' = wo)
      case atStart => exact ⟨0, _, by omega, rfl, rfl, rfl⟩
      case round =>
      obtain ⟨j, y, hj, rfl, rfl, rfl⟩ := hrel
      by_cases hjn : j < n2
      · have j0 : (0 : Int) ≤ j := by omega
        have j1 : (j : Int) < (n2 : Int) := by omega
        have hT := HT.out.1
        have hT1 := hT.1
        obtain ⟨gt, ot, rfl, s9, c9⟩ : ∃ g off, p2 = some ⟨g, off, none⟩ ∧ ∃ s, wr.cell? ⟨g, off + j * 4 + 3, none⟩ = some (.string s) := by
          rcases hT.2 with h | ⟨g, off, e, h⟩
          · omega
          · exact ⟨g, off, e, h j hjn⟩
        clear hT
        by_cases z9 : 65536 < wrap64 (y + (s9.size : Int))
        · go_wp2
          go_ret
          exact ⟨false, rfl, rfl, (fun h => by cases h)⟩
        go_wp2
        go_roundg (n2 - (j + 1))
        case measure => omega
        case rel => exact ⟨j + 1, _, by omega, by go_num, rfl, rfl⟩
      have ej : j = n2 := by omega
      subst ej
      clear hj hjn
      by_cases z3 : 65536 < wrap64 (y + (s6.size : Int))
      · go_wp2
        go_ret
        exact ⟨false, rfl, rfl, (fun h => by cases h)⟩
      by_cases z4 : 65536 < wrap64 (wrap64 (y + (s6.size : Int)) + (n7 : Int))
      · go_wp2
        go_ret
        exact ⟨false, rfl, rfl, (fun h => by cases h)⟩
      go_wp2_with fail
      obtain ⟨wo, hwo⟩ : ∃ wo, wo = wr := ⟨_, rfl⟩
      subst hwo
      go_loopg [6, 3] n7 (fun gg v v3 wr' => ∃ (j : Nat) (y : Int), j + gg = n7 ∧ v = .int .i64 (j : Int) ∧ v3 = .int .i64 y ∧ wr' = wo)
      case atStart => exact ⟨0, _, by omega, rfl, rfl, rfl⟩
      case round =>
      obtain ⟨j, x, hj, rfl, rfl, rfl⟩ := hrel
      by_cases hjn : j < n7
      · have j0 : (0 : Int) ≤ j := by omega
        have j1 : (j : Int) < (n7 : Int) := by omega
        have hT := HT.out.2
        have hT1 := hT.1
        obtain ⟨gt, ot, rfl, s9, c9⟩ : ∃ g off, p7 = some ⟨g, off, none⟩ ∧ ∃ s, wr.cell? ⟨g, off + j * 4 + 3, none⟩ = some (.string s) := by
          rcases hT.2 with h | ⟨g, off, e, h⟩
          · omega
          · exact ⟨g, off, e, h j hjn⟩
        clear hT
        by_cases z9 : 65536 < wrap64 (x + (s9.size : Int))
        · go_wp2
          go_ret
          exact ⟨false, rfl, rfl, (fun h => by cases h)⟩
        go_wp2
        go_roundg (n7 - (j + 1))
        case measure => omega
        case rel => exact ⟨j + 1, _, by omega, by go_num, rfl, rfl⟩
      have ej : j = n7 := by omega
      subst ej
      clear hj hjn
      go_wp2
      go_roundg (n - (i + 1))
      case measure => omega
      case rel => exact ⟨i + 1, _, by omega, by go_num, rfl, rfl⟩
    · have e : i = n := by omega
      subst e
      go_wp2
      go_ret
      exact ⟨true, rfl, rfl, fun _ => hn⟩
  · have h1 : (n : Int) > 65536 := by omega
    go_enter Tryz.func4, Tryz.ntmps4
    go_wp2
    go_ret
    exact ⟨false, rfl, rfl, (fun h => by cases h)⟩
end Go.Proofs.Qxb6500880aGreat
