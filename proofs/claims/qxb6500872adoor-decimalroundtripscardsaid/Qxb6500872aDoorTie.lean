/-
  DERIVED. GIVEN WITH THE SEED: THE PROGRAM's TIES (one call each: nine closed facts by the kernel) AND EACH ROW's TIE, after the 31st guide's Derived/Test/Toyas{Tie, Card}.lean. No idea stands in it: it is a product of the set-up. Laid BY PROGRAM, IN A SANDBOX (cutbox-door.mjs). By AI agents, Wed Nov 11 2026. No macro, syntax, notation, axiom, sorry.
-/
import Derived.Test.Qxb6500872aDoorRows
import Derived.LaidByTextLater
import Derived.SevenTiedAt
import Derived.LaidSub
import Derived.LaidOnce
namespace Go.Proofs.Qxb6500872aDoor
open Go
set_option maxRecDepth 100000
theorem seatTie1 : Tryd.prog.laidByTextLater [("e2e/bignat.ErrDivZero", Rows.laid_e2e_bignat_ErrDivZero), ("e2e/bignat.ErrNegative", Rows.laid_e2e_bignat_ErrNegative), ("e2e/bignat.ErrSyntax", Rows.laid_e2e_bignat_ErrSyntax)] [.sentinel, .sentinel, .sentinel] true :=
  Program.laidByTextLater_by_one 66 8 2 (by kernel_rfl) (by kernel_rfl) (by kernel_rfl) (by kernel_rfl) (by kernel_rfl) (by kernel_rfl) (fun _ _ => by kernel_rfl)
theorem noOwnUnsafe : Tryd.pinned.checked.prog.headLifts.contains "ownunsafe" = false := by kernel_rfl
theorem tie : Tryd.prog.laidByTextLater [("e2e/bignat.ErrDivZero", Rows.laid_e2e_bignat_ErrDivZero), ("e2e/bignat.ErrNegative", Rows.laid_e2e_bignat_ErrNegative), ("e2e/bignat.ErrSyntax", Rows.laid_e2e_bignat_ErrSyntax)] [.sentinel, .sentinel, .sentinel] true :=
  Program.laidByTextLater.sub seatTie1 ["e2e/bignat.ErrDivZero", "e2e/bignat.ErrNegative", "e2e/bignat.ErrSyntax"] (by kernel_rfl) (by kernel_rfl)
theorem decimalRoundTrips_row_tie : Rows.decimalRoundTripsRow.laidByTextAt .later Tryd.pinned [.sentinel, .sentinel, .sentinel] true :=
  OpenClaim.laidByTextAt_later rfl rfl tie noOwnUnsafe
end Go.Proofs.Qxb6500872aDoor
