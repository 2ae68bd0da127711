import Derived.Test.Qxb6500880aGreatLhT
import Derived.Test.Qxb6500880aGreatLhH
set_option linter.unusedVariables false
set_option linter.unusedSimpArgs false
namespace Go.Proofs.Qxb6500880aGreat
open Go.RowKit

theorem law3 {w : World} {p : Option Addr} {n c : Nat} (S : ScrIn w p n) :
    Calls Tryz.prog 3 #[.slice p n c] w fun e w' => e = .returned (.bool true) ∧ Below w.heap.size w w' :=
  pkgA.thus ⟨pkgB.thus ⟨pkgC.thus ⟨pkgD.thus ⟨pkgE.thus ⟨pkgF.thus ⟨pkgG.thus ⟨pkgT⟩ ⟨pkgH⟩⟩⟩⟩⟩⟩⟩ _ _ _ _ S
end Go.Proofs.Qxb6500880aGreat
