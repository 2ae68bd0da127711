import Derived.Test.Qxb6500877aGreatDoorNSta
import Derived.Test.Qxb6500877aGreatDoorNStb
import Derived.Test.Qxb6500877aGreatDoorNStc
import Derived.Test.Qxb6500877aGreatDoorNStd
import Derived.Test.Qxb6500877aGreatDoorNSte
import Derived.Test.Qxb6500877aGreatDoorNStf
import Derived.Test.Qxb6500877aGreatDoorNStg
import Derived.Test.Qxb6500877aGreatDoorNSth
import Derived.Test.Qxb6500877aGreatDoorNSti
import Derived.Test.Qxb6500877aGreatDoorNMl
set_option linter.unusedVariables false
set_option linter.unusedSimpArgs false
namespace Go.Proofs.Qxb6500877aGreatDoor
open Go.RowKit

/-- A step that is no delivery. -/
theorem step_oth {w : World} {B mb t k : Nat} {ν : Net} (M : Mach w B mb t k ν) (hk : k < 800000) (o : OpS) (ho : o.ok) (h1 : o.kd ≠ 1) :
    Calls Tryz.prog 19 #[.pointer (some ⟨B, 0, none⟩), opV o] w fun e w' => ∃ (c : Int) (ν' : Net), ResF c e ∧ Done w w' B mb (afterF t (tickOf o)) (k + 4) ν' ∧ ((o.kd = 4 ∨ o.kd = 5) → StepSend o t ν c ν') ∧ (¬ (o.kd = 4 ∨ o.kd = 5) → ν' = ν) := by
  have e0 : (o.kd ≠ 2 ∧ o.kd ≠ 3) → afterF t (tickOf o) = t := fun h => by
    rw [tickOf, if_neg h.1, if_neg h.2, afterF]
    have := M.tlt
    split <;> omega
  have any : ∀ {e : Ending} {w' : World} {t' : Nat}, ¬ (o.kd = 4 ∨ o.kd = 5) → t' = afterF t (tickOf o) → (Any e ∧ Done w w' B mb t' (k + 4) ν) → ∃ (c : Int) (ν' : Net), ResF c e ∧ Done w w' B mb (afterF t (tickOf o)) (k + 4) ν' ∧ ((o.kd = 4 ∨ o.kd = 5) → StepSend o t ν c ν') ∧ (¬ (o.kd = 4 ∨ o.kd = 5) → ν' = ν) := by
    rintro e w' t' hn rfl ⟨⟨c, hc⟩, D⟩
    exact ⟨c, ν, hc, D, fun q => absurd q hn, fun _ => rfl⟩
  have snd : ∀ {e : Ending} {w' : World}, (o.kd = 4 ∨ o.kd = 5) → (∃ (c : Int) (ν' : Net), ResF c e ∧ StepSend o t ν c ν' ∧ Done w w' B mb t (k + 4) ν') → ∃ (c : Int) (ν' : Net), ResF c e ∧ Done w w' B mb (afterF t (tickOf o)) (k + 4) ν' ∧ ((o.kd = 4 ∨ o.kd = 5) → StepSend o t ν c ν') ∧ (¬ (o.kd = 4 ∨ o.kd = 5) → ν' = ν) := by
    rintro e w' hn ⟨c, ν', hc, hS, D⟩
    rw [e0 (by omega)]
    exact ⟨c, ν', hc, D, fun _ => hS, fun q => absurd hn q⟩
  by_cases k0 : o.kd = 0
  · exact (step_0 M hk o ho k0).mono fun e w' h => any (by omega) (e0 (by omega)).symm h
  by_cases k2 : o.kd = 2
  · exact (step_2 M hk o ho k2).mono fun e w' h => any (by omega) (by rw [tickOf, if_pos k2]) h
  by_cases k3 : o.kd = 3
  · exact (step_3 M hk o ho k3).mono fun e w' h => any (by omega) (by rw [tickOf, if_neg (by omega), if_pos k3]) h
  by_cases k4 : o.kd = 4
  · exact (step_4 M hk o ho k4).mono fun e w' h => snd (by omega) h
  by_cases k5 : o.kd = 5
  · exact (step_5 M hk o ho k5).mono fun e w' h => snd (by omega) h
  by_cases k6 : o.kd = 6
  · exact (step_6 M hk o ho k6).mono fun e w' h => any (by omega) (e0 (by omega)).symm h
  by_cases k7 : o.kd = 7
  · exact (step_7 M hk o ho k7).mono fun e w' h => any (by omega) (e0 (by omega)).symm h
  by_cases k8 : o.kd = 8
  · exact (step_8 M hk o ho k8).mono fun e w' h => any (by omega) (e0 (by omega)).symm h
  by_cases k9 : o.kd = 9
  · exact (step_9 M hk o ho k9).mono fun e w' h => any (by omega) (e0 (by omega)).symm h
  · exact (step_x M hk o ho (by omega)).mono fun e w' h => any (by omega) (e0 (by omega)).symm h
end Go.Proofs.Qxb6500877aGreatDoor
