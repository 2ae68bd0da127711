import Derived.Deep.CutBlock
import Derived.OwnWalk
import Derived.Maps.AppendAt
import Derived.Test.Qxb6500877aGreatDoorAw1
import Derived.Test.Qxb6500877aGreatDoorAw2
import Derived.Test.Qxb6500877aGreatDoorAw3
set_option linter.unusedVariables false
set_option linter.unusedSimpArgs false
namespace Go.Proofs.Qxb6500877aGreatDoor
open Go.RowKit

theorem mstep_any {w : World} {D base : Nat} {V : Nat → Value} {m : Mdl} {o : OpS} (H : MdlAt w D base V m) (hbw : base ≤ w.heap.size) (K : MOk m) (ho : o.ok) :
    Calls Tryz.prog 21 #[.pointer (some ⟨D, 0, none⟩), opV o] w fun e w' => ∃ V' a p n c m', e = .returned (.agg (resCs a.z a.co a.tk a.tm a.hm a.mm p n c)) ∧ FrAt w' w.heap.size (.slice p n c) a.fs ∧ ModS m o a m' ∧ MdlAt w' D base V' m' ∧ MFr D V V' w w' := by
  by_cases h : 16 < o.kd
  · exact mstep_x H hbw K ho h
  have hk : o.kd = 0 ∨ o.kd = 1 ∨ o.kd = 2 ∨ o.kd = 3 ∨ o.kd = 4 ∨ o.kd = 5 ∨ o.kd = 6 ∨ o.kd = 7 ∨ o.kd = 8 ∨ o.kd = 9 ∨ o.kd = 10 ∨ o.kd = 11 ∨ o.kd = 12 ∨ o.kd = 13 ∨ o.kd = 14 ∨ o.kd = 15 ∨ o.kd = 16 := by omega
  rcases hk with h | h | h | h | h | h | h | h | h | h | h | h | h | h | h | h | h
  · exact mstep_0 H hbw K ho h
  · exact mstep_1 H hbw K ho h
  · exact mstep_2 H hbw K ho h
  · exact mstep_3 H hbw K ho h
  · exact mstep_4 H hbw K ho h
  · exact mstep_5 H hbw K ho h
  · exact mstep_6 H hbw K ho h
  · exact mstep_7 H hbw K ho h
  · exact mstep_8 H hbw K ho h
  · exact mstep_9 H hbw K ho h
  · exact mstep_10 H hbw K ho h
  · exact mstep_11 H hbw K ho h
  · exact mstep_12 H hbw K ho h
  · exact mstep_13 H hbw K ho h
  · exact mstep_14 H hbw K ho h
  · exact mstep_15 H hbw K ho h
  · exact mstep_16 H hbw K ho h
end Go.Proofs.Qxb6500877aGreatDoor
