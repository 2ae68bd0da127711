import Derived.Test.Qxb6500877aGreatDoorVd0
import Derived.Test.Qxb6500877aGreatDoorUMq
set_option linter.unusedVariables false
set_option linter.unusedSimpArgs false
namespace Go.Proofs.Qxb6500877aGreatDoor
open Go.RowKit

/-- A result of code c and timer tm, the timers that went off in v. -/
def ResG (c tm : Int) (v : Value) (e : Ending) : Prop := ∃ co tk hm m p a n, v = .slice p a n ∧ e = .returned (resV c co tk tm hm m p a n)
/-- What a step does to the timers, and answers. -/
def TimR (o : OpS) (t : Nat) (τ : TSt) (c tm : Int) (l : List FiredS) (τ' : TSt) : Prop :=
  ((o.kd = 2 ∨ o.kd = 3) ∧ AdvanceR τ τ' t (tickOf o) l) ∨ (¬ (o.kd = 2 ∨ o.kd = 3) ∧ l = [] ∧ τ'.tm = noteT o c tm t τ.tm ∧ ((o.kd = 6 ∨ o.kd = 7) → c = 0 → tm = τ.nx) ∧ (o.kd = 8 → c = 0 → ∃ v, τ.tm o.x = some v))
theorem noteT_else {o : OpS} {c tm : Int} {t : Nat} {τ : Int → Option TmV} (h : o.kd ≠ 6 ∧ o.kd ≠ 7 ∧ o.kd ≠ 8 ∧ o.kd ≠ 9) : noteT o c tm t τ = τ := by
  unfold noteT
  split
  · rfl
  · rw [if_neg h.1, if_neg h.2.1, if_neg h.2.2.1, if_neg h.2.2.2]
end Go.Proofs.Qxb6500877aGreatDoor
