/-
  DERIVED. GIVEN WITH THE SEED: THE CARDS: each row of Qxb6500877aGreatDoorRows.lean that lists a variable, with what it lists TIED to the program's text (the seventh form; the later family's looks); each row that meets fmt, with fmt's text TOLD by the authors' own Lean function (tested against real Go, not proved from fmt's source: count such statements apart). THE CARD IS WHAT COUNTS. Prove the row's statement (the work); the ties are given (Qxb6500877aGreatDoorTie.lean); close each card by the builder's one call (the guide's Derived/Test/ToyasCard.lean, 'card_holds'). Laid BY PROGRAM, IN A SANDBOX (cutbox-door.mjs). By AI agents, Wed Nov 11 2026. No macro, syntax, notation, axiom, sorry.
-/
import Derived.Test.Qxb6500877aGreatDoorRows
import GoSem.ClaimSeven
namespace Go.Proofs.Qxb6500877aGreatDoor
namespace Rows

/-- THE TIED CARD OF 'machinelaw.Refines'. -/
def refinesCard : Claim7 := { stood := { row := refinesRow, standIns := [], harness := (true, "d27ffe59fb09ef6daa95844f31c779df9c9b34f01da44595daa5631d1ef59406"), looks := false }, kinds := [], alts := [], laidByText := true, laidKinds := [.data, .data], laidTests := true, laidLooks := .later }
def RefinesCardSaid : Prop := Claim7.holds Tryz.pinned (.plain (OpenSpec.ofChange refinesSpec)) refinesCard

/-- THE TIED CARD OF 'machinelaw.MailboxesDeliverOnceInOrder'. -/
def mailboxesDeliverOnceInOrderCard : Claim7 := { stood := { row := mailboxesDeliverOnceInOrderRow, standIns := [], harness := (true, "d27ffe59fb09ef6daa95844f31c779df9c9b34f01da44595daa5631d1ef59406"), looks := false }, kinds := [], alts := [], laidByText := true, laidKinds := [.data, .data], laidTests := true, laidLooks := .later }
def MailboxesDeliverOnceInOrderCardSaid : Prop := Claim7.holds Tryz.pinned (.plain (OpenSpec.ofChange mailboxesDeliverOnceInOrderSpec)) mailboxesDeliverOnceInOrderCard

/-- THE TIED CARD OF 'machinelaw.FullMailboxRefuses'. -/
def fullMailboxRefusesCard : Claim7 := { stood := { row := fullMailboxRefusesRow, standIns := [], harness := (true, "d27ffe59fb09ef6daa95844f31c779df9c9b34f01da44595daa5631d1ef59406"), looks := false }, kinds := [], alts := [], laidByText := true, laidKinds := [.data, .data], laidTests := true, laidLooks := .later }
def FullMailboxRefusesCardSaid : Prop := Claim7.holds Tryz.pinned (.plain (OpenSpec.ofChange fullMailboxRefusesSpec)) fullMailboxRefusesCard

/-- THE TIED CARD OF 'machinelaw.TimersFireOnTime'. -/
def timersFireOnTimeCard : Claim7 := { stood := { row := timersFireOnTimeRow, standIns := [], harness := (true, "d27ffe59fb09ef6daa95844f31c779df9c9b34f01da44595daa5631d1ef59406"), looks := false }, kinds := [], alts := [], laidByText := true, laidKinds := [.data, .data], laidTests := true, laidLooks := .later }
def TimersFireOnTimeCardSaid : Prop := Claim7.holds Tryz.pinned (.plain (OpenSpec.ofChange timersFireOnTimeSpec)) timersFireOnTimeCard

/-- THE TIED CARD OF 'machinelaw.CancelledTimersNeverFire'. -/
def cancelledTimersNeverFireCard : Claim7 := { stood := { row := cancelledTimersNeverFireRow, standIns := [], harness := (true, "d27ffe59fb09ef6daa95844f31c779df9c9b34f01da44595daa5631d1ef59406"), looks := false }, kinds := [], alts := [], laidByText := true, laidKinds := [.data, .data], laidTests := true, laidLooks := .later }
def CancelledTimersNeverFireCardSaid : Prop := Claim7.holds Tryz.pinned (.plain (OpenSpec.ofChange cancelledTimersNeverFireSpec)) cancelledTimersNeverFireCard

/-- THE TIED CARD OF 'machinelaw.ClockSaturates'. -/
def clockSaturatesCard : Claim7 := { stood := { row := clockSaturatesRow, standIns := [], harness := (true, "d27ffe59fb09ef6daa95844f31c779df9c9b34f01da44595daa5631d1ef59406"), looks := false }, kinds := [], alts := [], laidByText := true, laidKinds := [.data, .data], laidTests := true, laidLooks := .later }
def ClockSaturatesCardSaid : Prop := Claim7.holds Tryz.pinned (.plain (OpenSpec.ofChange clockSaturatesSpec)) clockSaturatesCard

/-- THE TIED CARD OF 'machinelaw.PickFolds'. -/
def pickFoldsCard : Claim7 := { stood := { row := pickFoldsRow, standIns := [], harness := (true, "d27ffe59fb09ef6daa95844f31c779df9c9b34f01da44595daa5631d1ef59406"), looks := false }, kinds := [], alts := [], laidByText := true, laidKinds := [.data, .data], laidTests := true, laidLooks := .later }
def PickFoldsCardSaid : Prop := Claim7.holds Tryz.pinned (.plain (OpenSpec.ofChange pickFoldsSpec)) pickFoldsCard

/-- THE TIED CARD OF 'machinelaw.PickServesBandsInOrder'. -/
def pickServesBandsInOrderCard : Claim7 := { stood := { row := pickServesBandsInOrderRow, standIns := [], harness := (true, "d27ffe59fb09ef6daa95844f31c779df9c9b34f01da44595daa5631d1ef59406"), looks := false }, kinds := [], alts := [], laidByText := true, laidKinds := [.data, .data], laidTests := true, laidLooks := .later }
def PickServesBandsInOrderCardSaid : Prop := Claim7.holds Tryz.pinned (.plain (OpenSpec.ofChange pickServesBandsInOrderSpec)) pickServesBandsInOrderCard

/-- THE TIED CARD OF 'machinelaw.RefusalsChangeNothing'. -/
def refusalsChangeNothingCard : Claim7 := { stood := { row := refusalsChangeNothingRow, standIns := [], harness := (true, "d27ffe59fb09ef6daa95844f31c779df9c9b34f01da44595daa5631d1ef59406"), looks := false }, kinds := [], alts := [], laidByText := true, laidKinds := [.data, .data], laidTests := true, laidLooks := .later }
def RefusalsChangeNothingCardSaid : Prop := Claim7.holds Tryz.pinned (.plain (OpenSpec.ofChange refusalsChangeNothingSpec)) refusalsChangeNothingCard

/-- THE TIED CARD OF 'machinelaw.AdvanceIsSoManyTicks'. -/
def advanceIsSoManyTicksCard : Claim7 := { stood := { row := advanceIsSoManyTicksRow, standIns := [], harness := (true, "d27ffe59fb09ef6daa95844f31c779df9c9b34f01da44595daa5631d1ef59406"), looks := false }, kinds := [], alts := [], laidByText := true, laidKinds := [.data, .data], laidTests := true, laidLooks := .later }
def AdvanceIsSoManyTicksCardSaid : Prop := Claim7.holds Tryz.pinned (.plain (OpenSpec.ofChange advanceIsSoManyTicksSpec)) advanceIsSoManyTicksCard

/-- THE TIED CARD OF 'machinelaw.FairRoundServesAll'. -/
def fairRoundServesAllCard : Claim7 := { stood := { row := fairRoundServesAllRow, standIns := [], harness := (true, "d27ffe59fb09ef6daa95844f31c779df9c9b34f01da44595daa5631d1ef59406"), looks := false }, kinds := [], alts := [], laidByText := true, laidKinds := [.data, .data, .data], laidTests := true, laidLooks := .later }
def FairRoundServesAllCardSaid : Prop := Claim7.holds Tryz.pinned (.plain (OpenSpec.ofChange fairRoundServesAllSpec)) fairRoundServesAllCard

/-- THE TIED CARD OF 'machinelaw.NextTimerIsForetold'. -/
def nextTimerIsForetoldCard : Claim7 := { stood := { row := nextTimerIsForetoldRow, standIns := [], harness := (true, "d27ffe59fb09ef6daa95844f31c779df9c9b34f01da44595daa5631d1ef59406"), looks := false }, kinds := [], alts := [], laidByText := true, laidKinds := [.data, .data], laidTests := true, laidLooks := .later }
def NextTimerIsForetoldCardSaid : Prop := Claim7.holds Tryz.pinned (.plain (OpenSpec.ofChange nextTimerIsForetoldSpec)) nextTimerIsForetoldCard

/-- THE TIED CARD OF 'machinelaw.TraceTellsWhatHappened'. -/
def traceTellsWhatHappenedCard : Claim7 := { stood := { row := traceTellsWhatHappenedRow, standIns := [], harness := (true, "d27ffe59fb09ef6daa95844f31c779df9c9b34f01da44595daa5631d1ef59406"), looks := false }, kinds := [], alts := [], laidByText := true, laidKinds := [.data, .data], laidTests := true, laidLooks := .later }
def TraceTellsWhatHappenedCardSaid : Prop := Claim7.holds Tryz.pinned (.plain (OpenSpec.ofChange traceTellsWhatHappenedSpec)) traceTellsWhatHappenedCard
end Rows
end Go.Proofs.Qxb6500877aGreatDoor
