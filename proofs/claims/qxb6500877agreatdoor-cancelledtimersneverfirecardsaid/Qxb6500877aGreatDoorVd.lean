import Derived.Test.Qxb6500877aGreatDoorVd6
import Derived.Test.Qxb6500877aGreatDoorVd7
import Derived.Test.Qxb6500877aGreatDoorVd8
import Derived.Test.Qxb6500877aGreatDoorVd9
import Derived.Test.Qxb6500877aGreatDoorVdx
import Derived.Test.Qxb6500877aGreatDoorVdc
set_option linter.unusedVariables false
set_option linter.unusedSimpArgs false
namespace Go.Proofs.Qxb6500877aGreatDoor
open Go.RowKit

theorem note_any {w : World} {bk pb cb n : Nat} {τ : Int → Option TmV} {χ : Int → Bool} (H : BookAt w bk pb cb n τ χ) (hn : n < 900000) {o : OpS} (ho : o.ok) {t : Nat} (ht : t < 18446744073709551616) {c co tk tm : Int} {hm : Bool} {mm : MsgV} {p : Option Addr} {a' n' : Nat} (htm : (o.kd = 6 ∨ o.kd = 7) → c = 0 → 0 ≤ tm ∧ tm < 18446744073709551616) (hre : o.kd = 8 → c = 0 → ∃ v, τ o.x = some v) :
    Calls Tryz.prog 37 #[.pointer (some ⟨bk, 0, none⟩), opV o, resV c co tk tm hm mm p a' n', .int .u64 (t : Int)] w fun e w' => e = .returned (.tuple #[]) ∧ BookAt w' bk pb cb (n + 1) (noteT o c tm t τ) (noteX o c χ) ∧ MutM pb cb w w' := by
  by_cases hc : c = 0
  · subst hc
    by_cases k6 : o.kd = 6
    · exact note_6 H hn ho ht k6 (htm (.inl k6) rfl).1 (htm (.inl k6) rfl).2
    by_cases k7 : o.kd = 7
    · exact note_7 H hn ho ht k7 (htm (.inr k7) rfl).1 (htm (.inr k7) rfl).2
    by_cases k8 : o.kd = 8
    · exact note_8 H hn ho ht k8 (hre k8 rfl)
    by_cases k9 : o.kd = 9
    · exact note_9 H hn ho ht k9
    exact note_x H hn ho ht k6 k7 k8 k9
  · exact note_c H hn ho ht hc
end Go.Proofs.Qxb6500877aGreatDoor
