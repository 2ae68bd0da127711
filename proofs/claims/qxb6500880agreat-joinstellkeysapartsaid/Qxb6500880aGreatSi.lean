import Derived.Deep.CutBlock
import Derived.OwnWalk
import Derived.Maps.AppendAt
import Derived.Maps.OwnSet
import Derived.Maps.OwnOps
import Derived.Laws.ResultCell
import Derived.Laws.AppendOwnNone
import Derived.Test.Qxb6500880aGreatSh
set_option linter.unusedVariables false
set_option linter.unusedSimpArgs false
namespace Go.Proofs.Qxb6500880aGreat
open Go.RowKit

set_option maxRecDepth 20000 in
set_option maxHeartbeats 8000000 in
theorem sortFunc_any {w : World} {n c EB RX : Nat} {p : Option Addr} {Post : World → Prop}
    (hss : Calls Tryz.prog 52 #[.iface 41 (.slice p n c), .func (.func 53) #[] #[.pointer (some ⟨w.heap.size + 1, 0, none⟩), .pointer (some ⟨w.heap.size, 0, none⟩)]] ((w.alloc (.cells #[.slice p n c] 41)).alloc (.cells #[(.func (.func 38) #[] #[.pointer (some ⟨EB, 0, none⟩), .pointer (some ⟨RX, 0, none⟩)])] 151)) fun e w' => e = .returned (.tuple #[]) ∧ Post w') :
    Calls Tryz.prog 37 #[.slice p n c, (.func (.func 38) #[] #[.pointer (some ⟨EB, 0, none⟩), .pointer (some ⟨RX, 0, none⟩)])] w fun e w' => e = .returned (.tuple #[]) ∧ Post w' := by
  have a0 : ((w.alloc (.cells #[.slice p n c] 41)).alloc (.cells #[(.func (.func 38) #[] #[.pointer (some ⟨EB, 0, none⟩), .pointer (some ⟨RX, 0, none⟩)])] 151)).cell? ⟨w.heap.size, 0, none⟩ = some (.slice p n c) := cell_later (one_alloc _ _) (new_cell rfl _ _ _)
  go_enter Tryz.func37, Tryz.ntmps37
  go_wp2_with fail
  refine hss.mono ?_
  rintro e w' ⟨rfl, hR⟩
  have HR := hideIt hR
  clear hR
  go_wp2
  go_end0
  exact ⟨rfl, HR.out⟩
end Go.Proofs.Qxb6500880aGreat
