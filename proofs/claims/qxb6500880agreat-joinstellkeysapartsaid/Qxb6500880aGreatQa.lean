import Derived.Deep.CutBlock
import Derived.OwnWalk
import Derived.Maps.AppendAt
import Derived.Maps.OwnSet
import Derived.Maps.OwnOps
import Derived.Laws.ResultCell
import Derived.Laws.AppendOwnNone
import Derived.Test.Qxb6500880aGreatZq
set_option linter.unusedVariables false
set_option linter.unusedSimpArgs false
namespace Go.Proofs.Qxb6500880aGreat
open Go.RowKit

set_option maxRecDepth 20000 in
set_option maxHeartbeats 8000000 in
theorem extend_same {w : World} {IX b R k : Nat} (x3 : w.cell? ⟨IX, 3, none⟩ = some (.int .i64 (k : Int))) (h : R ≤ k) :
    Calls Tryz.prog 62 #[.pointer (some ⟨IX, 0, none⟩), .pointer (some ⟨b, 0, none⟩), .int .i64 (R : Int)] w fun e w' => e = .returned (.tuple #[]) ∧ w' = w := by
  have h' : (R : Int) ≤ (k : Int) := by omega
  go_enter Tryz.func62, Tryz.ntmps62
  go_wp2
  refine bodyPost_ret (results_none rfl _ _ _) rfl ?_
  exact ⟨rfl, rfl⟩
set_option maxRecDepth 20000 in
set_option maxHeartbeats 8000000 in
theorem refresh_any {w : World} {E RL cr gi ci IX cur : Nat} {rb : Nat → Nat} {PP : World → Prop} (h5 : w.cell? ⟨E, 5, none⟩ = some (.slice (some ⟨RL, 0, none⟩) 4 cr)) (rl : ∀ j, j < 4 → w.cell? ⟨RL, j, none⟩ = some (.pointer (some ⟨rb j, 0, none⟩))) (x0 : w.cell? ⟨rb 0, 7, none⟩ = some (.slice (some ⟨gi, 0, none⟩) 1 ci)) (x1 : ∀ j, 0 < j → j < 4 → w.cell? ⟨rb j, 7, none⟩ = some (.slice none 0 0)) (xi : w.cell? ⟨gi, 0, none⟩ = some (.pointer (some ⟨IX, 0, none⟩))) (xc : w.cell? ⟨rb 0, 11, none⟩ = some (.int .i64 (cur : Int))) (ne : RL ≠ IX ∧ ∀ j, 0 < j → j < 4 → rb j ≠ IX)
    (hext : Calls Tryz.prog 62 #[.pointer (some ⟨IX, 0, none⟩), .pointer (some ⟨rb 0, 0, none⟩), .int .i64 (cur : Int)] w fun e w' => e = .returned (.tuple #[]) ∧ PP w' ∧ Wr IX w w') :
    Calls Tryz.prog 49 #[.pointer (some ⟨E, 0, none⟩)] w fun e w' => e = .returned (.tuple #[]) ∧ PP w' ∧ Wr IX w w' := by
  have HQ := hideIt (And.intro rl (And.intro x0 (And.intro x1 (And.intro xi (And.intro xc ne)))))
  clear rl x0 x1 xi xc ne
  go_enter Tryz.func49, Tryz.ntmps49
  go_wp2_with fail
  go_loopg [11] 4 (fun gg v wr => ∃ j : Nat, j + gg = 4 ∧ v = .int .i64 (j : Int) ∧ (j = 0 → wr = w) ∧ (0 < j → PP wr ∧ Wr IX w wr))
  case atStart => exact ⟨0, by omega, rfl, fun _ => rfl, fun h => by omega⟩
  case round =>
  obtain ⟨j, hj, rfl, h0, h1⟩ := hrel
  by_cases hin : j < 4
  · have j0 : (0 : Int) ≤ j := by omega
    have j1 : (j : Int) < 4 := by omega
    obtain ⟨rl, x0, x1, xi, xc, ne⟩ := HQ.out
    by_cases hz : j = 0
    · subst hz
      have ew := (h0 rfl).symm
      subst ew
      have r0 : w.cell? ⟨RL, 0, none⟩ = some (.pointer (some ⟨rb 0, 0, none⟩)) := rl 0 (by omega)
      clear h0 h1 rl x1 ne
      generalize rb 0 = b at *
      go_wp2_with fail
      go_loopg [20] 1 (fun gg v wr => ∃ k : Nat, k + gg = 1 ∧ v = .int .i64 (k : Int) ∧ (k = 0 → wr = w) ∧ (k = 1 → PP wr ∧ Wr IX w wr))
      case atStart => exact ⟨0, by omega, rfl, fun _ => rfl, fun h => by omega⟩
      case round =>
      obtain ⟨k, hk, rfl, k0, k1⟩ := hrel
      by_cases hkn : k < 1
      · have hk0 : k = 0 := by omega
        subst hk0
        have ew := (k0 rfl).symm
        subst ew
        clear k0 k1
        go_wp2_with fail
        refine hext.mono ?_
        rintro e w2 ⟨rfl, hpp⟩
        have HP := hideIt hpp
        clear hpp hext
        go_wp2
        go_roundg 0
        case measure => omega
        case rel => exact ⟨1, by omega, by go_num, fun h => by omega, fun _ => HP.out⟩
      · have hk1 : k = 1 := by omega
        have hp := hideIt (k1 hk1)
        have i1 : ¬ ((k : Int) < 1) := by omega
        clear k0 k1 hext
        go_wp2
        go_roundg 3
        case measure => omega
        case rel => exact ⟨1, by omega, by go_num, fun h => by omega, fun _ => hp.out⟩
    · have hp := h1 (by omega)
      have r0 := (World.cell?_of_block (a := ⟨RL, j, none⟩) (hp.2.block RL (World.block_lt_of_cell? _ _ (rl 0 (by omega))) ne.1)).trans (rl j hin)
      have x7 := (World.cell?_of_block (a := ⟨rb j, 7, none⟩) (hp.2.block (rb j) (World.block_lt_of_cell? _ _ (x1 j (by omega) hin)) (ne.2 j (by omega) hin))).trans (x1 j (by omega) hin)
      have HP := hideIt hp
      clear hp h0 h1 rl x0 x1 xi xc ne hext
      generalize rb j = b at *
      go_wp2_with fail
      go_loopg [20] 0 (fun gg v wq => v = .int .i64 0 ∧ wq = wr)
      case atStart => exact ⟨rfl, rfl⟩
      case round =>
        obtain ⟨rfl, ew⟩ := hrel
        replace ew := ew.symm
        subst ew
        go_wp2
        go_roundg (4 - (j + 1))
        case measure => omega
        case rel => exact ⟨j + 1, by omega, by go_num, fun h => by omega, fun _ => HP.out⟩
  · have i1 : ¬ ((j : Int) < 4) := by omega
    have HP := hideIt (h1 (by omega))
    clear h0 h1 hext
    go_wp2
    go_end0
    exact ⟨rfl, HP.out⟩
end Go.Proofs.Qxb6500880aGreat
