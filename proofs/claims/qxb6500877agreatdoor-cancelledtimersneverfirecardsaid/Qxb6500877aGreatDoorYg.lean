import Derived.Test.Qxb6500877aGreatDoorYf
import Derived.Test.Qxb6500877aGreatDoorYe
set_option linter.unusedVariables false
set_option linter.unusedSimpArgs false
namespace Go.Proofs.Qxb6500877aGreatDoor
open Go.RowKit

theorem law7 {p : Option Addr} {n c : Nat} {L : List OpS} {w : World} (h : OpsIn w p L) (hn : L.length = n) (hok : ∀ o ∈ L, o.ok) (hnc : n ≤ c) (V : Vac w) (TB : TabAt w) (h2 : 2 < w.heap.size) :
    Calls Tryz.prog 7 #[.slice p n c] w fun e w' => e = .returned (.bool true) ∧ Below w.heap.size w w' :=
  law7_of (fun _ _ _ _ _ _ _ M hk o ho => step_u M hk o ho) h hn hok hnc V TB h2
end Go.Proofs.Qxb6500877aGreatDoor
