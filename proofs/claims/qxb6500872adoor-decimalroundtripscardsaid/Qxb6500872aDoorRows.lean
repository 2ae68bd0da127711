/-
  NARROWER THAN 'FOR EVERY INPUT', by the rows' own cells (each row's printed sentence says how): DecimalRoundTrips: laid.
  DERIVED. THE GIVEN ROWS OF THIS SEAT. 1 by the template 'for every input the law returns true; each argument reads behind the call as it read before'; 0 by the template 'total and deterministic' (their statements: Qxb6500872aDoorTotals.lean).
  GIVEN WITH THE SEED: the statements are not yours to turn. If you find one false, say at which input.
  Laid BY PROGRAM, IN A SANDBOX (cutbox-rows.mjs): the forced cells as the released guide's own fill.sh prints them over the translation 28ad4352f41acc69… (all of the seat's roots in one cut). By AI agents, Wed Nov 11 2026. No macro, syntax, notation, axiom, sorry.
-/
import Derived.Test.Qxb6500872aDoorChecked
import GoSem.Claim
import GoSem.ClaimJoined
import GoSem.ClaimMapViews
import Derived.JoinedTies
import Derived.KernelRfl
namespace Go.Proofs.Qxb6500872aDoor
/- THE CELL 'sum', in the pinned program and in every row, IS THE sha256 OF THE DUMP (.gsa) THAT Qxb6500872aDoorProg.lean LOADS. Nothing in Lean hashes anything: it is a label: what it is worth is what the hold of that sum in a sandbox is worth. -/
noncomputable def Tryd.pinned : Pinned := { name := "qxb6500872adoor", sum := "28ad4352f41acc6991b7acf498011920a6f9b7d9fcbeddc342b5c4f5bd25ef05", checked := Tryd.checked }
namespace Rows
def none {H : Type} : Left H := { results := [], args := [] }

/- WHAT THE LISTED PACKAGE-LEVEL VARIABLES READ AS WHEN THE CALL BEGINS. Each datum BY PROGRAM (the guide's laid-datum.mjs) off the statement by which the dump's own 'gosem.cut.vars' lays the variable. In a bare row this is a premise. The card (Qxb6500872aDoorCards.lean) ties it to the program's text. -/
def laid_e2e_bignat_ErrDivZero {H : Type} : DataW H := .iface "*errors.errorString" (.ptr (.agg [.lit (.string [98, 105, 103, 110, 97, 116, 58, 32, 100, 105, 118, 105, 115, 105, 111, 110, 32, 98, 121, 32, 122, 101, 114, 111])]))
def laid_e2e_bignat_ErrNegative {H : Type} : DataW H := .iface "*errors.errorString" (.ptr (.agg [.lit (.string [98, 105, 103, 110, 97, 116, 58, 32, 115, 117, 98, 116, 114, 97, 99, 116, 105, 111, 110, 32, 111, 102, 32, 110, 97, 116, 117, 114, 97, 108, 115, 32, 98, 101, 108, 111, 119, 32, 122, 101, 114, 111])]))
def laid_e2e_bignat_ErrSyntax {H : Type} : DataW H := .iface "*errors.errorString" (.ptr (.agg [.lit (.string [98, 105, 103, 110, 97, 116, 58, 32, 109, 97, 108, 102, 111, 114, 109, 101, 100, 32, 100, 101, 99, 105, 109, 97, 108, 32, 110, 117, 109, 98, 101, 114])]))

/-- 'bignatlaw.DecimalRoundTrips': WHATEVER THE INPUT: true; the input reads as it did. -/
def decimalRoundTripsSpec : ChangeSpec := { name := "decimalRoundTrips", fn := fun _ => fun
  | [d] => { results := [.lit (.bool true)], args := [d] }
  | _ => none }
def decimalRoundTripsRow : OpenClaim := { program := "qxb6500872adoor", sum := "28ad4352f41acc6991b7acf498011920a6f9b7d9fcbeddc342b5c4f5bd25ef05", func := "e2e/bignatlaw.DecimalRoundTrips", spec := "decimalRoundTrips", named := ["e2e/bignat.ErrSyntax", "e2e/bignat.ErrDivZero", "e2e/bignat.ErrNegative"], apart := false, laid := [("e2e/bignat.ErrDivZero", laid_e2e_bignat_ErrDivZero), ("e2e/bignat.ErrNegative", laid_e2e_bignat_ErrNegative), ("e2e/bignat.ErrSyntax", laid_e2e_bignat_ErrSyntax)] }
def DecimalRoundTripsSaid : Prop := decimalRoundTripsRow.holds Tryd.pinned (OpenSpec.ofChange decimalRoundTripsSpec)

/-- ITS FALSE NEIGHBOUR: 'it returns false'. Refute it at one input. -/
def decimalRoundTripsWrong : ChangeSpec := { name := "decimalRoundTrips", fn := fun _ => fun
  | [d] => { results := [.lit (.bool false)], args := [d] }
  | _ => none }
def DecimalRoundTripsWrongFalsely : Prop := decimalRoundTripsRow.holds Tryd.pinned (OpenSpec.ofChange decimalRoundTripsWrong)

end Rows
end Go.Proofs.Qxb6500872aDoor
