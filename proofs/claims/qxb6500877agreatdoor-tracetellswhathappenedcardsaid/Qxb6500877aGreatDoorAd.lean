import Derived.Deep.CutBlock
import Derived.OwnWalk
import Derived.Test.Qxb6500877aGreatDoorAc
set_option linter.unusedVariables false
set_option linter.unusedSimpArgs false
namespace Go.Proofs.Qxb6500877aGreatDoor
open Go.RowKit

/-- The task that runs on core c, in the model. -/
def RunIs (tk : Nat → Int × Int × Int) (c v : Int) : Prop := (∃ t : Nat, t < 16 ∧ (tk t).1 = 3 ∧ (tk t).2.1 = c ∧ v = t) ∨ (v = -1 ∧ ∀ s, s < 16 → ¬ ((tk s).1 = 3 ∧ (tk s).2.1 = c))
set_option maxHeartbeats 2000000 in
theorem running_any {w : World} {D base : Nat} {V : Nat → Value} {m : Mdl} (H : MdlAt w D base V m) (c : Int) :
    Calls Tryz.prog 89 #[.pointer (some ⟨D, 0, none⟩), .int .i64 c] w fun e w' => ∃ v, e = .returned (.int .i64 v) ∧ RunIs m.tk c v ∧ w' = w := by
  have HT := hideIt (fun i (hi : i < 16) => H.task hi)
  go_enter Tryz.func89, Tryz.ntmps89
  go_wp2_with fail
  go_loopg [6] 16 (fun gg v wr => ∃ j : Nat, j + gg = 16 ∧ v = .int .i64 (j : Int) ∧ w = wr ∧ Hid (∀ s, s < j → ¬ ((m.tk s).1 = 3 ∧ (m.tk s).2.1 = c)))
  case atStart => exact ⟨0, by omega, rfl, rfl, hideIt (fun s hs => by omega)⟩
  case round =>
    obtain ⟨j, hjg, rfl, rfl, HD⟩ := hrel
    by_cases hj : j < 16
    · have j0 : (0 : Int) ≤ j := by omega
      have j1 : (j : Int) < 16 := by omega
      obtain ⟨q0, q1, _⟩ := HT.out j hj
      have hax : ∃ a b : Int, a = (m.tk j).1 ∧ b = (m.tk j).2.1 := ⟨_, _, rfl, rfl⟩
      obtain ⟨a, b, ea, eb⟩ := hax
      rw [← ea] at q0
      rw [← eb] at q1
      have HE := hideIt (And.intro ea eb)
      clear ea eb
      by_cases h3 : a = 3
      · have e3 : (a == 3) = true := by simp [h3]
        by_cases hc : b = c
        · have ec : (b == c) = true := by simp [hc]
          have HC := hideIt (And.intro h3 hc)
          clear h3 hc
          go_wp2
          go_ret
          refine ⟨j, rfl, .inl ⟨j, hj, ?_, ?_, rfl⟩, rfl⟩
          · rw [← HE.out.1]; exact HC.out.1
          · rw [← HE.out.2]; exact HC.out.2
        · have ec : (b == c) = false := by simpa using hc
          have HC := hideIt hc
          clear h3 hc
          go_wp2
          go_roundg (16 - (j + 1))
          case measure => omega
          case rel =>
            refine ⟨j + 1, by omega, by go_num, rfl, hideIt (fun s hs z => ?_)⟩
            by_cases e : s = j
            · subst e; exact HC.out (HE.out.2.trans z.2)
            · exact HD.out s (by omega) z
      · have e3 : (a == 3) = false := by simpa using h3
        have HC := hideIt h3
        clear h3
        go_wp2
        go_roundg (16 - (j + 1))
        case measure => omega
        case rel =>
          refine ⟨j + 1, by omega, by go_num, rfl, hideIt (fun s hs z => ?_)⟩
          by_cases e : s = j
          · subst e; exact HC.out (HE.out.1.trans z.1)
          · exact HD.out s (by omega) z
    · have e : j = 16 := by omega
      subst e
      go_wp2
      go_ret
      exact ⟨-1, rfl, .inr ⟨rfl, HD.out⟩, rfl⟩
/-- How many of the first n tasks are at home on core c. -/
def homeN (tk : Nat → Int × Int × Int) (c : Int) : Nat → Nat
  | 0 => 0
  | n + 1 => homeN tk c n + (if (tk n).1 ≠ 0 ∧ (tk n).2.1 = c then 1 else 0)
theorem homeN_le (tk : Nat → Int × Int × Int) (c : Int) : ∀ n, homeN tk c n ≤ n
  | 0 => Nat.le_refl _
  | n + 1 => by
    have := homeN_le tk c n
    unfold homeN
    split <;> omega
set_option maxRecDepth 20000 in
set_option maxHeartbeats 2000000 in
theorem atHome_any {w : World} {D base : Nat} {V : Nat → Value} {m : Mdl} (H : MdlAt w D base V m) (c : Int) :
    Calls Tryz.prog 90 #[.pointer (some ⟨D, 0, none⟩), .int .i64 c] w fun e w' => e = .returned (.int .i64 (homeN m.tk c 16 : Nat)) ∧ Below w.heap.size w w' := by
  have hlv := H.lv131
  go_enter Tryz.func90, Tryz.ntmps90
  go_upto_region 3 with (first | (refine wpList_load_row rfl (.tmp 10) 131 rfl ⟨D, 1, none⟩ (.agg (tsk m.tk)) rfl hlv ?_))
  clear hlv
  go_wp2_with fail
  go_loopg [12, 5] 16 (fun gg v v5 wr => ∃ j : Nat, j + gg = 16 ∧ v = .int .i64 (j : Int) ∧ v5 = .int .i64 ((homeN m.tk c j : Nat) : Int) ∧ Below w.heap.size w wr)
  case atStart => exact ⟨0, by omega, rfl, rfl, Below.refl _ _⟩
  case round =>
    obtain ⟨j, hjg, rfl, rfl, hb⟩ := hrel
    by_cases hj : j < 16
    · have j0 : (0 : Int) ≤ j := by omega
      have j1 : (j : Int) < 16 := by omega
      have hle := homeN_le m.tk c j
      have hsc : homeN m.tk c (j + 1) = homeN m.tk c j + (if (m.tk j).1 ≠ 0 ∧ (m.tk j).2.1 = c then 1 else 0) := rfl
      have HS := hideIt hsc
      clear hsc
      go_upto_region 5 with (first | (refine wpList_index131 rfl (.tmp 11) (.tmp 12) rfl hj rfl rfl ?_) | go_in)
      have b1 := fun t' => below_to hb (one_alloc wr (.cells #[.int .u8 (m.tk j).1, .int .i64 (m.tk j).2.1, .int .i64 (m.tk j).2.2] t')) hb.size
      generalize hn : homeN m.tk c j = n at *
      generalize ha : (m.tk j).1 = a at *
      generalize hbb : (m.tk j).2.1 = b at *
      clear hn ha hbb
      have hwn : IntKind.i64.wrap ((n : Int) + 1) = (n : Int) + 1 := by rw [IntKind.wrap_i64]; omega
      by_cases h3 : a = 0
      · have e3 : (a != 0) = false := by simp [h3]
        have HC := hideIt h3
        clear h3
        go_wp2
        go_roundg (16 - (j + 1))
        case measure => omega
        case rel => exact ⟨j + 1, by omega, by go_num, by rw [HS.out, if_neg (fun z => z.1 HC.out)]; simp, b1 _⟩
      · have e3 : (a != 0) = true := by simpa using h3
        by_cases hc : b = c
        · have ec : (b == c) = true := by simp [hc]
          have HC := hideIt (And.intro h3 hc)
          clear h3 hc
          go_wp2
          go_roundg (16 - (j + 1))
          case measure => omega
          case rel => exact ⟨j + 1, by omega, by go_num, by rw [HS.out, if_pos HC.out]; simp, b1 _⟩
        · have ec : (b == c) = false := by simpa using hc
          have HC := hideIt hc
          clear h3 hc
          go_wp2
          go_roundg (16 - (j + 1))
          case measure => omega
          case rel => exact ⟨j + 1, by omega, by go_num, by rw [HS.out, if_neg (fun z => HC.out z.2)]; simp, b1 _⟩
    · have e : j = 16 := by omega
      subst e
      go_wp2
      go_ret
      exact ⟨rfl, hb⟩
end Go.Proofs.Qxb6500877aGreatDoor
