import Derived.Test.Qxb6500877aGreatDoorRows
import Derived.JoinedOf
set_option linter.unusedVariables false
namespace Go.Proofs.Qxb6500877aGreatDoor
theorem jf13 : ((Rows.mailboxesDeliverOnceInOrderRow.maps == (Tryz.f4.params.toList ++ Rows.mailboxesDeliverOnceInOrderSpec.plain.varTypes Tryz.prog).any (Tryz.prog.mapsRec ·))) = true := by kernel_rfl
theorem jf14 : ((Rows.mailboxesDeliverOnceInOrderRow.ifaces == (Tryz.f4.params.toList ++ Rows.mailboxesDeliverOnceInOrderSpec.plain.varTypes Tryz.prog).any (Tryz.prog.ifacesRec ·))) = true := by kernel_rfl
theorem jf15 : ((Rows.mailboxesDeliverOnceInOrderRow.mapsOut == Tryz.prog.mapsAmong Tryz.f4.resultTypes.toList)) = true := by kernel_rfl
theorem jf16 : ((Rows.mailboxesDeliverOnceInOrderRow.loops == (Tryz.f4.params.toList ++ Rows.mailboxesDeliverOnceInOrderSpec.plain.varTypes Tryz.prog).any (Tryz.prog.loopsFrom ·))) = true := by kernel_rfl
theorem jf17 : ((Rows.mailboxesDeliverOnceInOrderRow.wideKeys == (Tryz.f4.params.toList ++ Rows.mailboxesDeliverOnceInOrderSpec.plain.varTypes Tryz.prog ++ Tryz.f4.resultTypes.toList).any (Tryz.prog.wideKeysFrom ·))) = true := by kernel_rfl
theorem jf18 : (Rows.mailboxesDeliverOnceInOrderSpec.vars.all (Tryz.prog.varReadable ·)) = true := by kernel_rfl
theorem jf19 : (Tryz.f4.resultTypes.all (fun t => Tryz.prog.readableRec t && decide (t < Tryz.prog.types.size))) = true := by kernel_rfl
theorem jf20 : ((Rows.mailboxesDeliverOnceInOrderRow.ifacesOut == Tryz.f4.resultTypes.toList.any (Tryz.prog.ifacesRec ·))) = true := by kernel_rfl
theorem jf21 : ((Rows.mailboxesDeliverOnceInOrderRow.loopsOut == Tryz.f4.resultTypes.toList.any (Tryz.prog.loopsFrom ·))) = true := by kernel_rfl
theorem jf22 : ((Rows.mailboxesDeliverOnceInOrderRow.plainKeys == Tryz.prog.plainKeys)) = true := by kernel_rfl
theorem jf23 : (Rows.mailboxesDeliverOnceInOrderRow.shortTexts.isNone) = true := by kernel_rfl
theorem jf24 : (Tryz.prog.stopsHeard) = true := by kernel_rfl
theorem jf25 : (Tryz.prog.mayEnter) = true := by kernel_rfl
theorem jf26 : ((Rows.mailboxesDeliverOnceInOrderRow.lifted == Tryz.prog.liftsFinal)) = true := by kernel_rfl
theorem jf27 : ((Tryz.prog.make == some Rows.mailboxesDeliverOnceInOrderRow.make)) = true := by kernel_rfl
theorem jf28 : ((Rows.mailboxesDeliverOnceInOrderRow.kinds == (if Rows.mailboxesDeliverOnceInOrderRow.domain.isEmpty then [] else Tryz.f4.params.toList.map fun t => match Tryz.prog.underlying t with | some (.int k) => some k | _ => none))) = true := by kernel_rfl
theorem jf29 : ((Rows.mailboxesDeliverOnceInOrderRow.pinned == Rows.mailboxesDeliverOnceInOrderRow.pinnedBy)) = true := by kernel_rfl
theorem jf30 : ((Rows.mailboxesDeliverOnceInOrderRow.veiled == (Tryz.f4.params.toList ++ Rows.mailboxesDeliverOnceInOrderSpec.plain.varTypes Tryz.prog ++ Tryz.f4.resultTypes.toList).any (Tryz.prog.veiledRec ·))) = true := by kernel_rfl
theorem jf31 : (Rows.mailboxesDeliverOnceInOrderRow.veiledFits Tryz.prog Tryz.f4.params.toList (Tryz.f4.params.toList ++ Rows.mailboxesDeliverOnceInOrderSpec.plain.varTypes Tryz.prog ++ Tryz.f4.resultTypes.toList)) = true := by kernel_rfl
end Go.Proofs.Qxb6500877aGreatDoor
