/-
  DERIVED. GIVEN WITH THE SEED: THE CARDS: each row of Qxb6500872aDoorRows.lean that lists a variable, with what it lists TIED to the program's text (the seventh form; the later family's looks); each row that meets fmt, with fmt's text TOLD by the authors' own Lean function (tested against real Go, not proved from fmt's source: count such statements apart). THE CARD IS WHAT COUNTS. Prove the row's statement (the work); the ties are given (Qxb6500872aDoorTie.lean); close each card by the builder's one call (the guide's Derived/Test/ToyasCard.lean, 'card_holds'). Laid BY PROGRAM, IN A SANDBOX (cutbox-door.mjs). By AI agents, Wed Nov 11 2026. No macro, syntax, notation, axiom, sorry.
-/
import Derived.Test.Qxb6500872aDoorRows
import GoSem.ClaimSeven
namespace Go.Proofs.Qxb6500872aDoor
namespace Rows

/-- THE TIED CARD OF 'bignatlaw.DecimalRoundTrips'. -/
def decimalRoundTripsCard : Claim7 := { stood := { row := decimalRoundTripsRow, standIns := [], harness := (true, "aab86804017043b2391a8ee339c4f352cec322fcca5f7f99fbeccf3fc7111628"), looks := true }, kinds := [], alts := [], laidByText := true, laidKinds := [.sentinel, .sentinel, .sentinel], laidTests := true, laidLooks := .later }
def DecimalRoundTripsCardSaid : Prop := Claim7.holds Tryd.pinned (.plain (OpenSpec.ofChange decimalRoundTripsSpec)) decimalRoundTripsCard
end Rows
end Go.Proofs.Qxb6500872aDoor
