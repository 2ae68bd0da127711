import Derived.Test.Qxb6500877aGreatDoorVc
import Derived.Test.Qxb6500877aGreatDoorNLa
set_option linter.unusedVariables false
set_option linter.unusedSimpArgs false
namespace Go.Proofs.Qxb6500877aGreatDoor
open Go.RowKit

def noteT (o : OpS) (c tm : Int) (t : Nat) (τ : Int → Option TmV) : Int → Option TmV :=
  if c ≠ 0 then τ else if o.kd = 6 then updT τ tm (some ⟨o.a, o.x, o.y⟩) else if o.kd = 7 then updT τ tm (some ⟨o.a, (afterF t o.x : Nat), o.y⟩) else if o.kd = 8 then updT τ o.x ((τ o.x).map (fun v => ⟨v.core, o.y, v.ck⟩)) else if o.kd = 9 then updT τ o.x none else τ
def noteX (o : OpS) (c : Int) (χ : Int → Bool) : Int → Bool := if c = 0 ∧ o.kd = 9 then (fun j => if j = o.x then true else χ j) else χ
end Go.Proofs.Qxb6500877aGreatDoor
