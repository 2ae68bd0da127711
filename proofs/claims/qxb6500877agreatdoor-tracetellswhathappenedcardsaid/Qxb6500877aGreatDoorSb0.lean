import Derived.Test.Qxb6500877aGreatDoorSa
set_option linter.unusedVariables false
set_option linter.unusedSimpArgs false
namespace Go.Proofs.Qxb6500877aGreatDoor
open Go.RowKit

def deqA (s : Sched) (t h b : Nat) : Sched := (((((s.setHd h b (-1)).setTl h b (-1)).pPrev t (-1)).pNext t (-1)).setFl h (notBit (s.fl h) b)).setQn h (s.qn h - 1)
def deqB (s : Sched) (t h b n : Nat) : Sched := ((((s.setHd h b n).pPrev n (-1)).pPrev t (-1)).pNext t (-1)).setQn h (s.qn h - 1)
def deqC (s : Sched) (t h b p : Nat) : Sched := ((((s.pNext p (-1)).setTl h b p).pPrev t (-1)).pNext t (-1)).setQn h (s.qn h - 1)
def deqD (s : Sched) (t h b p n : Nat) : Sched := ((((s.pNext p n).pPrev n p).pPrev t (-1)).pNext t (-1)).setQn h (s.qn h - 1)

end Go.Proofs.Qxb6500877aGreatDoor
