/-
  No cell of these rows narrows 'for every input' (looked for: loops, veiled, ifaces, maps, wideKeys, modest, calm, conditions, laid).
  DERIVED. THE GIVEN ROWS OF THIS SEAT. 1 by the template 'for every input the law returns true; each argument reads behind the call as it read before'; 0 by the template 'total and deterministic' (their statements: Qxb6500880aTotals.lean).
  GIVEN WITH THE SEED: the statements are not yours to turn. If you find one false, say at which input.
  Laid BY PROGRAM, IN A SANDBOX (cutbox-rows.mjs): the forced cells as the released guide's own fill.sh prints them over the translation d9157a6d13ff059a… (all of the seat's roots in one cut). By AI agents, Wed Nov 11 2026. No macro, syntax, notation, axiom, sorry.
-/
import Derived.Test.Qxb6500880aChecked
import GoSem.Claim
import GoSem.ClaimJoined
import GoSem.ClaimMapViews
import Derived.JoinedTies
import Derived.KernelRfl
namespace Go.Proofs.Qxb6500880a
/- THE CELL 'sum', in the pinned program and in every row, IS THE sha256 OF THE DUMP (.gsa) THAT Qxb6500880aProg.lean LOADS. Nothing in Lean hashes anything: it is a label: what it is worth is what the hold of that sum in a sandbox is worth. -/
noncomputable def Try.pinned : Pinned := { name := "qxb6500880a", sum := "d9157a6d13ff059a17580a4a8ba4f32b71ff106e0db5b480626e91dd7df852bc", checked := Try.checked }
namespace Rows
def none {H : Type} : Left H := { results := [], args := [] }

/-- 'evallaw.LimitsAreWhereTheySay': WHATEVER THE INPUT: true; the input reads as it did. -/
def limitsAreWhereTheySaySpec : ChangeSpec := { name := "limitsAreWhereTheySay", fn := fun _ => fun
  | [] => { results := [.lit (.bool true)], args := [] }
  | _ => none }
def limitsAreWhereTheySayRow : OpenClaim := { program := "qxb6500880a", sum := "d9157a6d13ff059a17580a4a8ba4f32b71ff106e0db5b480626e91dd7df852bc", func := "e2e/evallaw.LimitsAreWhereTheySay", spec := "limitsAreWhereTheySay", inPlace := ["internal/bytealg.abigen_runtime_cmpstring"], unfollowed := true, recurses := true, apart := false }
def LimitsAreWhereTheySaySaid : Prop := limitsAreWhereTheySayRow.holds Try.pinned (OpenSpec.ofChange limitsAreWhereTheySaySpec)

/-- ITS FALSE NEIGHBOUR: 'it returns false'. Refute it at one input. -/
def limitsAreWhereTheySayWrong : ChangeSpec := { name := "limitsAreWhereTheySay", fn := fun _ => fun
  | [] => { results := [.lit (.bool false)], args := [] }
  | _ => none }
def LimitsAreWhereTheySayWrongFalsely : Prop := limitsAreWhereTheySayRow.holds Try.pinned (OpenSpec.ofChange limitsAreWhereTheySayWrong)

end Rows
end Go.Proofs.Qxb6500880a
