/- A part of a proof. No conditions. -/
import Derived.Test.YtnhbiolfmeeniaaGreatDoorLAz
set_option linter.all false
set_option maxRecDepth 100000
set_option maxHeartbeats 4000000
namespace Go.Proofs.YtnhbiolfmeeniaaGreatDoor
open Go.Vs Go.Vs.Y Go.RowKit Go.ChangeShapes Go.WideShapes
theorem O5:Rows.vtodoAgainRow.wf (OpenSpec.ofChange Rows.vtodoAgainSpec)=true:=by kernel_rfl
theorem O6:laidOutB Tryz.pinned.checked.prog=true:=by kernel_rfl
theorem O7:mapsRowed Tryz.pinned.checked.prog=true:=by kernel_rfl
theorem O8:Tryz.f3.params.all (Tryz.pinned.checked.prog.readableRec ·)=true:=by kernel_rfl
theorem O9:namedTie Tryz.pinned.checked.prog Rows.vtodoAgainRow.named Rows.vtodoAgainSpec.vars=true:=by kernel_rfl
theorem Oa:(Rows.vtodoAgainRow.stops == [])=true:=by kernel_rfl
theorem Oc:(Tryz.pinned.checked.prog.stops == [])=true:=by kernel_rfl
theorem Od:(Rows.vtodoAgainRow.knobs == [])=true:=by kernel_rfl
theorem Oe:(Tryz.pinned.checked.prog.stopKnobs == [])=true:=by kernel_rfl
theorem ME:(Rows.vtodoAgainRow.maps==(Tryz.f3.params.toList++Rows.vtodoAgainSpec.plain.varTypes Tryz.pinned.checked.prog).any (Tryz.pinned.checked.prog.mapsRec ·))=true:=by kernel_rfl
theorem MF:(Rows.vtodoAgainRow.ifaces==(Tryz.f3.params.toList++Rows.vtodoAgainSpec.plain.varTypes Tryz.pinned.checked.prog).any (Tryz.pinned.checked.prog.ifacesRec ·))=true:=by kernel_rfl
theorem MG:(Rows.vtodoAgainRow.mapsOut==Tryz.pinned.checked.prog.mapsAmong Tryz.f3.resultTypes.toList)=true:=by kernel_rfl
theorem MH:(Rows.vtodoAgainRow.loops==(Tryz.f3.params.toList++Rows.vtodoAgainSpec.plain.varTypes Tryz.pinned.checked.prog).any (Tryz.pinned.checked.prog.loopsFrom ·))=true:=by kernel_rfl
theorem MI:(Rows.vtodoAgainRow.wideKeys==(Tryz.f3.params.toList++Rows.vtodoAgainSpec.plain.varTypes Tryz.pinned.checked.prog++Tryz.f3.resultTypes.toList).any (Tryz.pinned.checked.prog.wideKeysFrom ·))=true:=by kernel_rfl
theorem MJ:Rows.vtodoAgainSpec.vars.all (Tryz.pinned.checked.prog.varReadable ·)=true:=by kernel_rfl
theorem MK:Tryz.f3.resultTypes.all (fun t=>Tryz.pinned.checked.prog.readableRec t&&decide (t<Tryz.pinned.checked.prog.types.size))=true:=by kernel_rfl
theorem ML:(Rows.vtodoAgainRow.ifacesOut==Tryz.f3.resultTypes.toList.any (Tryz.pinned.checked.prog.ifacesRec ·))=true:=by kernel_rfl
theorem MM:(Rows.vtodoAgainRow.loopsOut==Tryz.f3.resultTypes.toList.any (Tryz.pinned.checked.prog.loopsFrom ·))=true:=by kernel_rfl
theorem MN:(Rows.vtodoAgainRow.plainKeys==Tryz.pinned.checked.prog.plainKeys)=true:=by kernel_rfl
theorem MO:Rows.vtodoAgainRow.shortTexts.isNone=true:=by kernel_rfl
theorem MP:Tryz.pinned.checked.prog.stopsHeard=true:=by kernel_rfl
theorem MQ:Tryz.pinned.checked.prog.mayEnter=true:=by kernel_rfl
theorem MR:(Rows.vtodoAgainRow.lifted==Tryz.pinned.checked.prog.liftsFinal)=true:=by kernel_rfl
theorem MS:(Tryz.pinned.checked.prog.make==some Rows.vtodoAgainRow.make)=true:=by kernel_rfl
theorem MT:(Rows.vtodoAgainRow.pinned==Rows.vtodoAgainRow.pinnedBy)=true:=by kernel_rfl
theorem MU:(Rows.vtodoAgainRow.veiled==(Tryz.f3.params.toList++Rows.vtodoAgainSpec.plain.varTypes Tryz.pinned.checked.prog++Tryz.f3.resultTypes.toList).any (Tryz.pinned.checked.prog.veiledRec ·))=true:=by kernel_rfl
theorem MV:Rows.vtodoAgainRow.veiledFits Tryz.pinned.checked.prog Tryz.f3.params.toList (Tryz.f3.params.toList++Rows.vtodoAgainSpec.plain.varTypes Tryz.pinned.checked.prog++Tryz.f3.resultTypes.toList)=true:=by kernel_rfl
end Go.Proofs.YtnhbiolfmeeniaaGreatDoor
