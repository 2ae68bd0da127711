/-
  NARROWER THAN 'FOR EVERY INPUT', by the rows' own cells (each row's printed sentence says how): Refines: laid · MailboxesDeliverOnceInOrder: laid · FullMailboxRefuses: laid · TimersFireOnTime: laid · CancelledTimersNeverFire: laid · ClockSaturates: laid · PickFolds: laid · PickServesBandsInOrder: laid · RefusalsChangeNothing: laid · AdvanceIsSoManyTicks: laid · FairRoundServesAll: laid · NextTimerIsForetold: laid · TraceTellsWhatHappened: laid.
  DERIVED. THE GIVEN ROWS OF THIS SEAT. 13 by the template 'for every input the law returns true; each argument reads behind the call as it read before'; 0 by the template 'total and deterministic' (their statements: Qxb6500877aGreatDoorTotals.lean).
  GIVEN WITH THE SEED: the statements are not yours to turn. If you find one false, say at which input.
  Laid BY PROGRAM, IN A SANDBOX (cutbox-rows.mjs): the forced cells as the released guide's own fill.sh prints them over the translation e1ae46b251c141be… (all of the seat's roots in one cut). By AI agents, Wed Nov 11 2026. No macro, syntax, notation, axiom, sorry.
-/
import Derived.Test.Qxb6500877aGreatDoorChecked
import GoSem.Claim
import GoSem.ClaimJoined
import GoSem.ClaimMapViews
import Derived.JoinedTies
import Derived.KernelRfl
namespace Go.Proofs.Qxb6500877aGreatDoor
/- THE CELL 'sum', in the pinned program and in every row, IS THE sha256 OF THE DUMP (.gsa) THAT Qxb6500877aGreatDoorProg.lean LOADS. Nothing in Lean hashes anything: it is a label: what it is worth is what the hold of that sum in a sandbox is worth. -/
noncomputable def Tryz.pinned : Pinned := { name := "qxb6500877agreatdoor", sum := "e1ae46b251c141be56ef90529d615ecc9b22aace92cd2921a50ffc771d1de4f0", checked := Tryz.checked }
namespace Rows
def none {H : Type} : Left H := { results := [], args := [] }

/- WHAT THE LISTED PACKAGE-LEVEL VARIABLES READ AS WHEN THE CALL BEGINS. Each datum BY PROGRAM (the guide's laid-datum.mjs) off the statement by which the dump's own 'gosem.cut.vars' lays the variable. In a bare row this is a premise. The card (Qxb6500877aGreatDoorCards.lean) ties it to the program's text. -/
def laid_math_bits_deBruijn64tab {H : Type} : DataW H := .agg [.lit (.int .u8 0), .lit (.int .u8 1), .lit (.int .u8 56), .lit (.int .u8 2), .lit (.int .u8 57), .lit (.int .u8 49), .lit (.int .u8 28), .lit (.int .u8 3), .lit (.int .u8 61), .lit (.int .u8 58), .lit (.int .u8 42), .lit (.int .u8 50), .lit (.int .u8 38), .lit (.int .u8 29), .lit (.int .u8 17), .lit (.int .u8 4), .lit (.int .u8 62), .lit (.int .u8 47), .lit (.int .u8 59), .lit (.int .u8 36), .lit (.int .u8 45), .lit (.int .u8 43), .lit (.int .u8 51), .lit (.int .u8 22), .lit (.int .u8 53), .lit (.int .u8 39), .lit (.int .u8 33), .lit (.int .u8 30), .lit (.int .u8 24), .lit (.int .u8 18), .lit (.int .u8 12), .lit (.int .u8 5), .lit (.int .u8 63), .lit (.int .u8 55), .lit (.int .u8 48), .lit (.int .u8 27), .lit (.int .u8 60), .lit (.int .u8 41), .lit (.int .u8 37), .lit (.int .u8 16), .lit (.int .u8 46), .lit (.int .u8 35), .lit (.int .u8 44), .lit (.int .u8 21), .lit (.int .u8 52), .lit (.int .u8 32), .lit (.int .u8 23), .lit (.int .u8 11), .lit (.int .u8 54), .lit (.int .u8 26), .lit (.int .u8 40), .lit (.int .u8 15), .lit (.int .u8 34), .lit (.int .u8 20), .lit (.int .u8 31), .lit (.int .u8 10), .lit (.int .u8 25), .lit (.int .u8 14), .lit (.int .u8 19), .lit (.int .u8 9), .lit (.int .u8 13), .lit (.int .u8 8), .lit (.int .u8 7), .lit (.int .u8 6)]
def laid_e2e_machine_vacantTask {H : Type} : DataW H := .agg [.lit (.int .u8 0), .lit (.int .i64 (-1)), .lit (.int .i8 0), .lit (.int .i8 (-1)), .lit (.int .i8 (-1))]
def laid_math_bits_deBruijn32tab {H : Type} : DataW H := .agg [.lit (.int .u8 0), .lit (.int .u8 1), .lit (.int .u8 28), .lit (.int .u8 2), .lit (.int .u8 29), .lit (.int .u8 14), .lit (.int .u8 24), .lit (.int .u8 3), .lit (.int .u8 30), .lit (.int .u8 22), .lit (.int .u8 20), .lit (.int .u8 15), .lit (.int .u8 25), .lit (.int .u8 17), .lit (.int .u8 4), .lit (.int .u8 8), .lit (.int .u8 31), .lit (.int .u8 27), .lit (.int .u8 13), .lit (.int .u8 23), .lit (.int .u8 21), .lit (.int .u8 19), .lit (.int .u8 16), .lit (.int .u8 7), .lit (.int .u8 26), .lit (.int .u8 12), .lit (.int .u8 18), .lit (.int .u8 6), .lit (.int .u8 11), .lit (.int .u8 5), .lit (.int .u8 10), .lit (.int .u8 9)]

/-- 'machinelaw.Refines': WHATEVER THE INPUT: true; the input reads as it did. -/
def refinesSpec : ChangeSpec := { name := "refines", fn := fun _ => fun
  | [d] => { results := [.lit (.bool true)], args := [d] }
  | _ => none }
def refinesRow : OpenClaim := { program := "qxb6500877agreatdoor", sum := "e1ae46b251c141be56ef90529d615ecc9b22aace92cd2921a50ffc771d1de4f0", func := "e2e/machinelaw.Refines", spec := "refines", inPlace := ["internal/reflectlite.ValueOf", "internal/reflectlite.Swapper", "(internal/reflectlite.Value).Len"], unfollowed := true, recurses := true, named := ["e2e/machine.vacantTask", "math/bits.deBruijn64tab"], apart := false, laid := [("math/bits.deBruijn64tab", laid_math_bits_deBruijn64tab), ("e2e/machine.vacantTask", laid_e2e_machine_vacantTask)] }
def RefinesSaid : Prop := refinesRow.holds Tryz.pinned (OpenSpec.ofChange refinesSpec)

/-- ITS FALSE NEIGHBOUR: 'it returns false'. Refute it at one input. -/
def refinesWrong : ChangeSpec := { name := "refines", fn := fun _ => fun
  | [d] => { results := [.lit (.bool false)], args := [d] }
  | _ => none }
def RefinesWrongFalsely : Prop := refinesRow.holds Tryz.pinned (OpenSpec.ofChange refinesWrong)

/-- 'machinelaw.MailboxesDeliverOnceInOrder': WHATEVER THE INPUT: true; the input reads as it did. -/
def mailboxesDeliverOnceInOrderSpec : ChangeSpec := { name := "mailboxesDeliverOnceInOrder", fn := fun _ => fun
  | [d] => { results := [.lit (.bool true)], args := [d] }
  | _ => none }
def mailboxesDeliverOnceInOrderRow : OpenClaim := { program := "qxb6500877agreatdoor", sum := "e1ae46b251c141be56ef90529d615ecc9b22aace92cd2921a50ffc771d1de4f0", func := "e2e/machinelaw.MailboxesDeliverOnceInOrder", spec := "mailboxesDeliverOnceInOrder", unfollowed := true, recurses := true, named := ["e2e/machine.vacantTask", "math/bits.deBruijn64tab"], apart := false, laid := [("math/bits.deBruijn64tab", laid_math_bits_deBruijn64tab), ("e2e/machine.vacantTask", laid_e2e_machine_vacantTask)] }
def MailboxesDeliverOnceInOrderSaid : Prop := mailboxesDeliverOnceInOrderRow.holds Tryz.pinned (OpenSpec.ofChange mailboxesDeliverOnceInOrderSpec)

/-- ITS FALSE NEIGHBOUR: 'it returns false'. Refute it at one input. -/
def mailboxesDeliverOnceInOrderWrong : ChangeSpec := { name := "mailboxesDeliverOnceInOrder", fn := fun _ => fun
  | [d] => { results := [.lit (.bool false)], args := [d] }
  | _ => none }
def MailboxesDeliverOnceInOrderWrongFalsely : Prop := mailboxesDeliverOnceInOrderRow.holds Tryz.pinned (OpenSpec.ofChange mailboxesDeliverOnceInOrderWrong)

/-- 'machinelaw.FullMailboxRefuses': WHATEVER THE INPUT: true; the input reads as it did. -/
def fullMailboxRefusesSpec : ChangeSpec := { name := "fullMailboxRefuses", fn := fun _ => fun
  | [d] => { results := [.lit (.bool true)], args := [d] }
  | _ => none }
def fullMailboxRefusesRow : OpenClaim := { program := "qxb6500877agreatdoor", sum := "e1ae46b251c141be56ef90529d615ecc9b22aace92cd2921a50ffc771d1de4f0", func := "e2e/machinelaw.FullMailboxRefuses", spec := "fullMailboxRefuses", unfollowed := true, recurses := true, named := ["e2e/machine.vacantTask", "math/bits.deBruijn64tab"], apart := false, laid := [("math/bits.deBruijn64tab", laid_math_bits_deBruijn64tab), ("e2e/machine.vacantTask", laid_e2e_machine_vacantTask)] }
def FullMailboxRefusesSaid : Prop := fullMailboxRefusesRow.holds Tryz.pinned (OpenSpec.ofChange fullMailboxRefusesSpec)

/-- ITS FALSE NEIGHBOUR: 'it returns false'. Refute it at one input. -/
def fullMailboxRefusesWrong : ChangeSpec := { name := "fullMailboxRefuses", fn := fun _ => fun
  | [d] => { results := [.lit (.bool false)], args := [d] }
  | _ => none }
def FullMailboxRefusesWrongFalsely : Prop := fullMailboxRefusesRow.holds Tryz.pinned (OpenSpec.ofChange fullMailboxRefusesWrong)

/-- 'machinelaw.TimersFireOnTime': WHATEVER THE INPUT: true; the input reads as it did. -/
def timersFireOnTimeSpec : ChangeSpec := { name := "timersFireOnTime", fn := fun _ => fun
  | [d] => { results := [.lit (.bool true)], args := [d] }
  | _ => none }
def timersFireOnTimeRow : OpenClaim := { program := "qxb6500877agreatdoor", sum := "e1ae46b251c141be56ef90529d615ecc9b22aace92cd2921a50ffc771d1de4f0", func := "e2e/machinelaw.TimersFireOnTime", spec := "timersFireOnTime", inPlace := ["math/bits.Add64"], unfollowed := true, recurses := true, named := ["e2e/machine.vacantTask", "math/bits.deBruijn64tab"], apart := false, laid := [("math/bits.deBruijn64tab", laid_math_bits_deBruijn64tab), ("e2e/machine.vacantTask", laid_e2e_machine_vacantTask)] }
def TimersFireOnTimeSaid : Prop := timersFireOnTimeRow.holds Tryz.pinned (OpenSpec.ofChange timersFireOnTimeSpec)

/-- ITS FALSE NEIGHBOUR: 'it returns false'. Refute it at one input. -/
def timersFireOnTimeWrong : ChangeSpec := { name := "timersFireOnTime", fn := fun _ => fun
  | [d] => { results := [.lit (.bool false)], args := [d] }
  | _ => none }
def TimersFireOnTimeWrongFalsely : Prop := timersFireOnTimeRow.holds Tryz.pinned (OpenSpec.ofChange timersFireOnTimeWrong)

/-- 'machinelaw.CancelledTimersNeverFire': WHATEVER THE INPUT: true; the input reads as it did. -/
def cancelledTimersNeverFireSpec : ChangeSpec := { name := "cancelledTimersNeverFire", fn := fun _ => fun
  | [d] => { results := [.lit (.bool true)], args := [d] }
  | _ => none }
def cancelledTimersNeverFireRow : OpenClaim := { program := "qxb6500877agreatdoor", sum := "e1ae46b251c141be56ef90529d615ecc9b22aace92cd2921a50ffc771d1de4f0", func := "e2e/machinelaw.CancelledTimersNeverFire", spec := "cancelledTimersNeverFire", inPlace := ["math/bits.Add64"], unfollowed := true, recurses := true, named := ["e2e/machine.vacantTask", "math/bits.deBruijn64tab"], apart := false, laid := [("math/bits.deBruijn64tab", laid_math_bits_deBruijn64tab), ("e2e/machine.vacantTask", laid_e2e_machine_vacantTask)] }
def CancelledTimersNeverFireSaid : Prop := cancelledTimersNeverFireRow.holds Tryz.pinned (OpenSpec.ofChange cancelledTimersNeverFireSpec)

/-- ITS FALSE NEIGHBOUR: 'it returns false'. Refute it at one input. -/
def cancelledTimersNeverFireWrong : ChangeSpec := { name := "cancelledTimersNeverFire", fn := fun _ => fun
  | [d] => { results := [.lit (.bool false)], args := [d] }
  | _ => none }
def CancelledTimersNeverFireWrongFalsely : Prop := cancelledTimersNeverFireRow.holds Tryz.pinned (OpenSpec.ofChange cancelledTimersNeverFireWrong)

/-- 'machinelaw.ClockSaturates': WHATEVER THE INPUT: true; the input reads as it did. -/
def clockSaturatesSpec : ChangeSpec := { name := "clockSaturates", fn := fun _ => fun
  | [d] => { results := [.lit (.bool true)], args := [d] }
  | _ => none }
def clockSaturatesRow : OpenClaim := { program := "qxb6500877agreatdoor", sum := "e1ae46b251c141be56ef90529d615ecc9b22aace92cd2921a50ffc771d1de4f0", func := "e2e/machinelaw.ClockSaturates", spec := "clockSaturates", inPlace := ["math/bits.Add64"], unfollowed := true, recurses := true, named := ["e2e/machine.vacantTask", "math/bits.deBruijn64tab"], apart := false, laid := [("math/bits.deBruijn64tab", laid_math_bits_deBruijn64tab), ("e2e/machine.vacantTask", laid_e2e_machine_vacantTask)] }
def ClockSaturatesSaid : Prop := clockSaturatesRow.holds Tryz.pinned (OpenSpec.ofChange clockSaturatesSpec)

/-- ITS FALSE NEIGHBOUR: 'it returns false'. Refute it at one input. -/
def clockSaturatesWrong : ChangeSpec := { name := "clockSaturates", fn := fun _ => fun
  | [d] => { results := [.lit (.bool false)], args := [d] }
  | _ => none }
def ClockSaturatesWrongFalsely : Prop := clockSaturatesRow.holds Tryz.pinned (OpenSpec.ofChange clockSaturatesWrong)

/-- 'machinelaw.PickFolds': WHATEVER THE INPUT: true; the input reads as it did. -/
def pickFoldsSpec : ChangeSpec := { name := "pickFolds", fn := fun _ => fun
  | [d] => { results := [.lit (.bool true)], args := [d] }
  | _ => none }
def pickFoldsRow : OpenClaim := { program := "qxb6500877agreatdoor", sum := "e1ae46b251c141be56ef90529d615ecc9b22aace92cd2921a50ffc771d1de4f0", func := "e2e/machinelaw.PickFolds", spec := "pickFolds", unfollowed := true, recurses := true, named := ["e2e/machine.vacantTask", "math/bits.deBruijn64tab"], apart := false, laid := [("math/bits.deBruijn64tab", laid_math_bits_deBruijn64tab), ("e2e/machine.vacantTask", laid_e2e_machine_vacantTask)] }
def PickFoldsSaid : Prop := pickFoldsRow.holds Tryz.pinned (OpenSpec.ofChange pickFoldsSpec)

/-- ITS FALSE NEIGHBOUR: 'it returns false'. Refute it at one input. -/
def pickFoldsWrong : ChangeSpec := { name := "pickFolds", fn := fun _ => fun
  | [d] => { results := [.lit (.bool false)], args := [d] }
  | _ => none }
def PickFoldsWrongFalsely : Prop := pickFoldsRow.holds Tryz.pinned (OpenSpec.ofChange pickFoldsWrong)

/-- 'machinelaw.PickServesBandsInOrder': WHATEVER THE INPUT: true; the input reads as it did. -/
def pickServesBandsInOrderSpec : ChangeSpec := { name := "pickServesBandsInOrder", fn := fun _ => fun
  | [d] => { results := [.lit (.bool true)], args := [d] }
  | _ => none }
def pickServesBandsInOrderRow : OpenClaim := { program := "qxb6500877agreatdoor", sum := "e1ae46b251c141be56ef90529d615ecc9b22aace92cd2921a50ffc771d1de4f0", func := "e2e/machinelaw.PickServesBandsInOrder", spec := "pickServesBandsInOrder", unfollowed := true, recurses := true, named := ["e2e/machine.vacantTask", "math/bits.deBruijn64tab"], apart := false, laid := [("math/bits.deBruijn64tab", laid_math_bits_deBruijn64tab), ("e2e/machine.vacantTask", laid_e2e_machine_vacantTask)] }
def PickServesBandsInOrderSaid : Prop := pickServesBandsInOrderRow.holds Tryz.pinned (OpenSpec.ofChange pickServesBandsInOrderSpec)

/-- ITS FALSE NEIGHBOUR: 'it returns false'. Refute it at one input. -/
def pickServesBandsInOrderWrong : ChangeSpec := { name := "pickServesBandsInOrder", fn := fun _ => fun
  | [d] => { results := [.lit (.bool false)], args := [d] }
  | _ => none }
def PickServesBandsInOrderWrongFalsely : Prop := pickServesBandsInOrderRow.holds Tryz.pinned (OpenSpec.ofChange pickServesBandsInOrderWrong)

/-- 'machinelaw.RefusalsChangeNothing': WHATEVER THE INPUT: true; the input reads as it did. -/
def refusalsChangeNothingSpec : ChangeSpec := { name := "refusalsChangeNothing", fn := fun _ => fun
  | [d] => { results := [.lit (.bool true)], args := [d] }
  | _ => none }
def refusalsChangeNothingRow : OpenClaim := { program := "qxb6500877agreatdoor", sum := "e1ae46b251c141be56ef90529d615ecc9b22aace92cd2921a50ffc771d1de4f0", func := "e2e/machinelaw.RefusalsChangeNothing", spec := "refusalsChangeNothing", unfollowed := true, recurses := true, named := ["e2e/machine.vacantTask", "math/bits.deBruijn64tab"], apart := false, laid := [("math/bits.deBruijn64tab", laid_math_bits_deBruijn64tab), ("e2e/machine.vacantTask", laid_e2e_machine_vacantTask)] }
def RefusalsChangeNothingSaid : Prop := refusalsChangeNothingRow.holds Tryz.pinned (OpenSpec.ofChange refusalsChangeNothingSpec)

/-- ITS FALSE NEIGHBOUR: 'it returns false'. Refute it at one input. -/
def refusalsChangeNothingWrong : ChangeSpec := { name := "refusalsChangeNothing", fn := fun _ => fun
  | [d] => { results := [.lit (.bool false)], args := [d] }
  | _ => none }
def RefusalsChangeNothingWrongFalsely : Prop := refusalsChangeNothingRow.holds Tryz.pinned (OpenSpec.ofChange refusalsChangeNothingWrong)

/-- 'machinelaw.AdvanceIsSoManyTicks': WHATEVER THE INPUT: true; the input reads as it did. -/
def advanceIsSoManyTicksSpec : ChangeSpec := { name := "advanceIsSoManyTicks", fn := fun _ => fun
  | [d] => { results := [.lit (.bool true)], args := [d] }
  | _ => none }
def advanceIsSoManyTicksRow : OpenClaim := { program := "qxb6500877agreatdoor", sum := "e1ae46b251c141be56ef90529d615ecc9b22aace92cd2921a50ffc771d1de4f0", func := "e2e/machinelaw.AdvanceIsSoManyTicks", spec := "advanceIsSoManyTicks", unfollowed := true, recurses := true, named := ["e2e/machine.vacantTask", "math/bits.deBruijn64tab"], apart := false, laid := [("math/bits.deBruijn64tab", laid_math_bits_deBruijn64tab), ("e2e/machine.vacantTask", laid_e2e_machine_vacantTask)] }
def AdvanceIsSoManyTicksSaid : Prop := advanceIsSoManyTicksRow.holds Tryz.pinned (OpenSpec.ofChange advanceIsSoManyTicksSpec)

/-- ITS FALSE NEIGHBOUR: 'it returns false'. Refute it at one input. -/
def advanceIsSoManyTicksWrong : ChangeSpec := { name := "advanceIsSoManyTicks", fn := fun _ => fun
  | [d] => { results := [.lit (.bool false)], args := [d] }
  | _ => none }
def AdvanceIsSoManyTicksWrongFalsely : Prop := advanceIsSoManyTicksRow.holds Tryz.pinned (OpenSpec.ofChange advanceIsSoManyTicksWrong)

/-- 'machinelaw.FairRoundServesAll': WHATEVER THE INPUT: true; the input reads as it did. -/
def fairRoundServesAllSpec : ChangeSpec := { name := "fairRoundServesAll", fn := fun _ => fun
  | [d] => { results := [.lit (.bool true)], args := [d] }
  | _ => none }
def fairRoundServesAllRow : OpenClaim := { program := "qxb6500877agreatdoor", sum := "e1ae46b251c141be56ef90529d615ecc9b22aace92cd2921a50ffc771d1de4f0", func := "e2e/machinelaw.FairRoundServesAll", spec := "fairRoundServesAll", inPlace := ["math/bits.Add64"], unfollowed := true, recurses := true, named := ["e2e/machine.vacantTask", "math/bits.deBruijn64tab", "math/bits.deBruijn32tab"], apart := false, laid := [("math/bits.deBruijn32tab", laid_math_bits_deBruijn32tab), ("math/bits.deBruijn64tab", laid_math_bits_deBruijn64tab), ("e2e/machine.vacantTask", laid_e2e_machine_vacantTask)] }
def FairRoundServesAllSaid : Prop := fairRoundServesAllRow.holds Tryz.pinned (OpenSpec.ofChange fairRoundServesAllSpec)

/-- ITS FALSE NEIGHBOUR: 'it returns false'. Refute it at one input. -/
def fairRoundServesAllWrong : ChangeSpec := { name := "fairRoundServesAll", fn := fun _ => fun
  | [d] => { results := [.lit (.bool false)], args := [d] }
  | _ => none }
def FairRoundServesAllWrongFalsely : Prop := fairRoundServesAllRow.holds Tryz.pinned (OpenSpec.ofChange fairRoundServesAllWrong)

/-- 'machinelaw.NextTimerIsForetold': WHATEVER THE INPUT: true; the input reads as it did. -/
def nextTimerIsForetoldSpec : ChangeSpec := { name := "nextTimerIsForetold", fn := fun _ => fun
  | [d] => { results := [.lit (.bool true)], args := [d] }
  | _ => none }
def nextTimerIsForetoldRow : OpenClaim := { program := "qxb6500877agreatdoor", sum := "e1ae46b251c141be56ef90529d615ecc9b22aace92cd2921a50ffc771d1de4f0", func := "e2e/machinelaw.NextTimerIsForetold", spec := "nextTimerIsForetold", unfollowed := true, recurses := true, named := ["e2e/machine.vacantTask", "math/bits.deBruijn64tab"], apart := false, laid := [("math/bits.deBruijn64tab", laid_math_bits_deBruijn64tab), ("e2e/machine.vacantTask", laid_e2e_machine_vacantTask)] }
def NextTimerIsForetoldSaid : Prop := nextTimerIsForetoldRow.holds Tryz.pinned (OpenSpec.ofChange nextTimerIsForetoldSpec)

/-- ITS FALSE NEIGHBOUR: 'it returns false'. Refute it at one input. -/
def nextTimerIsForetoldWrong : ChangeSpec := { name := "nextTimerIsForetold", fn := fun _ => fun
  | [d] => { results := [.lit (.bool false)], args := [d] }
  | _ => none }
def NextTimerIsForetoldWrongFalsely : Prop := nextTimerIsForetoldRow.holds Tryz.pinned (OpenSpec.ofChange nextTimerIsForetoldWrong)

/-- 'machinelaw.TraceTellsWhatHappened': WHATEVER THE INPUT: true; the input reads as it did. -/
def traceTellsWhatHappenedSpec : ChangeSpec := { name := "traceTellsWhatHappened", fn := fun _ => fun
  | [d] => { results := [.lit (.bool true)], args := [d] }
  | _ => none }
def traceTellsWhatHappenedRow : OpenClaim := { program := "qxb6500877agreatdoor", sum := "e1ae46b251c141be56ef90529d615ecc9b22aace92cd2921a50ffc771d1de4f0", func := "e2e/machinelaw.TraceTellsWhatHappened", spec := "traceTellsWhatHappened", unfollowed := true, recurses := true, named := ["e2e/machine.vacantTask", "math/bits.deBruijn64tab"], apart := false, laid := [("math/bits.deBruijn64tab", laid_math_bits_deBruijn64tab), ("e2e/machine.vacantTask", laid_e2e_machine_vacantTask)] }
def TraceTellsWhatHappenedSaid : Prop := traceTellsWhatHappenedRow.holds Tryz.pinned (OpenSpec.ofChange traceTellsWhatHappenedSpec)

/-- ITS FALSE NEIGHBOUR: 'it returns false'. Refute it at one input. -/
def traceTellsWhatHappenedWrong : ChangeSpec := { name := "traceTellsWhatHappened", fn := fun _ => fun
  | [d] => { results := [.lit (.bool false)], args := [d] }
  | _ => none }
def TraceTellsWhatHappenedWrongFalsely : Prop := traceTellsWhatHappenedRow.holds Tryz.pinned (OpenSpec.ofChange traceTellsWhatHappenedWrong)

end Rows
end Go.Proofs.Qxb6500877aGreatDoor
