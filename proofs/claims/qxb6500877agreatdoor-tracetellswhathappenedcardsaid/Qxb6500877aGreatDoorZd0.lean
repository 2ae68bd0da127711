import Derived.Test.Qxb6500877aGreatDoorAt
import Derived.Test.Qxb6500877aGreatDoorPMi
import Derived.Test.Qxb6500877aGreatDoorPMf
set_option linter.unusedVariables false
set_option linter.unusedSimpArgs false
namespace Go.Proofs.Qxb6500877aGreatDoor
open Go.RowKit

/-- Every place is taken; some place is free. -/
def FullT (τ : TSt) : Prop := ∃ l : List Int, l.Nodup ∧ l.length = 64 ∧ ∀ id ∈ l, ∃ v, τ.tm id = some v
def RoomT (τ : TSt) : Prop := ∃ l : List Int, l.length < 64 ∧ ∀ id v, τ.tm id = some v → id ∈ l
/-- What an arming answers, the refusals told apart. -/
def ArmR2 (τ : TSt) (σ : Sg) (c d ck : Int) (a z : Int) (τ' : TSt) (σ' : Sg) : Prop := ArmR τ σ c d ck a z τ' σ' ∧ ((z = 4 ∧ ¬ (0 ≤ c ∧ c < 4)) ∨ (z = 9 ∧ (0 ≤ c ∧ c < 4) ∧ FullT τ) ∨ (z = 0 ∧ RoomT τ))
/-- A list of timers in order. -/
def TmAsc (l : List TmR) : Prop := ∀ (i j : Nat) (a b : TmR), i < j → l[i]? = some a → l[j]? = some b → ltTm b a = false
/-- The clock moved, in the model: what goes off, and what stays. -/
def firM (ft : Int) (t : TmR) : FiredS := ⟨t.id, t.core, t.dl, t.ck, max t.dl ft⟩
def incF (m : Mdl) (l : List TmR) : Mdl := l.foldl (fun m t => m.inc (t.core.toNat * 7 + 6)) m
def dueL (m : Mdl) (n : Int) : List TmR := m.tm.filter (fun t => decide (t.dl ≤ n))
def keepL (m : Mdl) (n : Int) : List TmR := m.tm.filter (fun t => !decide (t.dl ≤ n))
def TickM (m : Mdl) (n : Int) (fs : List FiredS) (m' : Mdl) : Prop :=
  (n = 0 ∧ fs = [] ∧ m' = m) ∨ (n ≠ 0 ∧ ∃ due : List TmR, due.Perm (dueL m (plusI m.now n)) ∧ TmAsc due ∧ fs = due.map (firM (plusI m.now 1)) ∧ m' = incF ((m.setNow (plusI m.now n)).setTm (keepL m (plusI m.now n))) due)
end Go.Proofs.Qxb6500877aGreatDoor
