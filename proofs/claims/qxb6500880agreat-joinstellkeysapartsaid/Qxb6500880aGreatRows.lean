/-
  No cell of these rows narrows 'for every input' (looked for: loops, veiled, ifaces, maps, wideKeys, modest, calm, conditions, laid).
  DERIVED. THE GIVEN ROWS OF THIS SEAT. 1 by the template 'for every input the law returns true; each argument reads behind the call as it read before'; 0 by the template 'total and deterministic' (their statements: Qxb6500880aGreatTotals.lean).
  GIVEN WITH THE SEED: the statements are not yours to turn. If you find one false, say at which input.
  Laid BY PROGRAM, IN A SANDBOX (cutbox-rows.mjs): the forced cells as the released guide's own fill.sh prints them over the translation 37b428bc67c4014d… (all of the seat's roots in one cut). By AI agents, Wed Nov 11 2026. No macro, syntax, notation, axiom, sorry.
-/
import Derived.Test.Qxb6500880aGreatChecked
import GoSem.Claim
import GoSem.ClaimJoined
import GoSem.ClaimMapViews
import Derived.JoinedTies
import Derived.KernelRfl
namespace Go.Proofs.Qxb6500880aGreat
/- THE CELL 'sum', in the pinned program and in every row, IS THE sha256 OF THE DUMP (.gsa) THAT Qxb6500880aGreatProg.lean LOADS. Nothing in Lean hashes anything: it is a label: what it is worth is what the hold of that sum in a sandbox is worth. -/
noncomputable def Tryz.pinned : Pinned := { name := "qxb6500880agreat", sum := "37b428bc67c4014d47a3abe3b53bf2c747a5a32018ed16af2fe4904e32bb487b", checked := Tryz.checked }
namespace Rows
def none {H : Type} : Left H := { results := [], args := [] }

/-- 'evallaw.JoinsTellKeysApart': WHATEVER THE INPUT: true; the input reads as it did. -/
def joinsTellKeysApartSpec : ChangeSpec := { name := "joinsTellKeysApart", fn := fun _ => fun
  | [d] => { results := [.lit (.bool true)], args := [d] }
  | _ => none }
def joinsTellKeysApartRow : OpenClaim := { program := "qxb6500880agreat", sum := "37b428bc67c4014d47a3abe3b53bf2c747a5a32018ed16af2fe4904e32bb487b", func := "e2e/evallaw.JoinsTellKeysApart", spec := "joinsTellKeysApart", inPlace := ["internal/bytealg.abigen_runtime_cmpstring", "internal/reflectlite.ValueOf", "internal/reflectlite.Swapper", "(internal/reflectlite.Value).Len"], unfollowed := true, recurses := true, plainKeys := false, apart := false }
def JoinsTellKeysApartSaid : Prop := joinsTellKeysApartRow.holds Tryz.pinned (OpenSpec.ofChange joinsTellKeysApartSpec)

/-- ITS FALSE NEIGHBOUR: 'it returns false'. Refute it at one input. -/
def joinsTellKeysApartWrong : ChangeSpec := { name := "joinsTellKeysApart", fn := fun _ => fun
  | [d] => { results := [.lit (.bool false)], args := [d] }
  | _ => none }
def JoinsTellKeysApartWrongFalsely : Prop := joinsTellKeysApartRow.holds Tryz.pinned (OpenSpec.ofChange joinsTellKeysApartWrong)

end Rows
end Go.Proofs.Qxb6500880aGreat
