import Derived.Test.Qxb6500877aGreatDoorAu0
set_option linter.unusedVariables false
set_option linter.unusedSimpArgs false
namespace Go.Proofs.Qxb6500877aGreatDoor
open Go.RowKit

set_option maxRecDepth 20000 in
set_option maxHeartbeats 4000000 in
theorem sortTm_any {w : World} {base n cap : Nat} {p : Option Addr} {l : List TmR} (H : w.ownsRow base 84 4 (.slice p n cap) n (tmCells l)) (hn : n = l.length) (hbig : n ≤ 1000) :
    Calls Tryz.prog 93 #[.slice p n cap] w fun e w' => e = .returned (.tuple #[]) ∧ ∃ l', l'.Perm l ∧ TmAsc l' ∧ w'.ownsRow base 84 4 (.slice p n cap) n (tmCells l') ∧ w.grownBy w' (Value.slice p n cap).ownBlock := by
  have h1 : (w.alloc (.cells #[.slice p n cap] 59)).cell? ⟨w.heap.size, 0, none⟩ = some (.slice p n cap) := by simp
  have h2 : (Value.slice p n cap).ownBlock ≠ some w.heap.size := fun e => Nat.lt_irrefl _ (H.lt _ e).2
  have h3 := H.alloc (.cells #[.slice p n cap] 59)
  have hS := sort_call (w := w.alloc (.cells #[.slice p n cap] 59)) (Bs := w.heap.size) h3 hn hbig h1 h2
  clear h1 h2 h3 H hn hbig
  have b1 := one_alloc w (.cells #[.slice p n cap] 59)
  have HB := hideIt b1
  clear b1
  go_enter Tryz.func93, Tryz.ntmps93
  go_wp2_with (go_at_call 165; refine hS.mono ?_; rintro e w' ⟨rfl, l', hp, ha, ho, hg⟩; have HQ := hideIt (And.intro hp (And.intro ha (And.intro ho hg))); clear hp ha ho hg hS)
  go_end0
  obtain ⟨hp, ha, ho, hg⟩ := HQ.out
  exact ⟨rfl, l', hp, ha, ho, grown_da hg HB.out⟩
end Go.Proofs.Qxb6500877aGreatDoor
