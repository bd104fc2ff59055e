/- The statement VtodoOrder holds at every input: more of what the row tells. No conditions. -/
import Derived.Test.YtcjeehebikeghaaGreatDoorLA
set_option linter.unusedVariables false
set_option linter.unusedSimpArgs false
set_option maxRecDepth 100000
set_option maxHeartbeats 4000000
namespace Go.Proofs.YtcjeehebikeghaaGreatDoor
open Go.Vs Go.Vs.YtcjeehebikeghaaGreatDoor Go.RowKit Go.ChangeShapes Go.WideShapes
theorem Ib:Rows.vtodoOrderRow.wf (OpenSpec.ofChange Rows.vtodoOrderSpec)=true:=by kernel_rfl
theorem Ic:laidOutB Tryz.pinned.checked.prog=true:=by kernel_rfl
theorem Id:mapsRowed Tryz.pinned.checked.prog=true:=by kernel_rfl
theorem Ie:Tryz.f5.params.all (Tryz.pinned.checked.prog.readableRec ·)=true:=by kernel_rfl
theorem If:namedTie Tryz.pinned.checked.prog Rows.vtodoOrderRow.named Rows.vtodoOrderSpec.vars=true:=by kernel_rfl
theorem Ig:(Rows.vtodoOrderRow.stops == [])=true:=by kernel_rfl
theorem Ih:(Tryz.pinned.checked.prog.stops == [])=true:=by kernel_rfl
theorem Ii:(Rows.vtodoOrderRow.knobs == [])=true:=by kernel_rfl
theorem Ij:(Tryz.pinned.checked.prog.stopKnobs == [])=true:=by kernel_rfl
theorem GM:(Rows.vtodoOrderRow.maps==(Tryz.f5.params.toList++Rows.vtodoOrderSpec.plain.varTypes Tryz.pinned.checked.prog).any (Tryz.pinned.checked.prog.mapsRec ·))=true:=by kernel_rfl
theorem GN:(Rows.vtodoOrderRow.ifaces==(Tryz.f5.params.toList++Rows.vtodoOrderSpec.plain.varTypes Tryz.pinned.checked.prog).any (Tryz.pinned.checked.prog.ifacesRec ·))=true:=by kernel_rfl
theorem GO:(Rows.vtodoOrderRow.mapsOut==Tryz.pinned.checked.prog.mapsAmong Tryz.f5.resultTypes.toList)=true:=by kernel_rfl
theorem GP:(Rows.vtodoOrderRow.loops==(Tryz.f5.params.toList++Rows.vtodoOrderSpec.plain.varTypes Tryz.pinned.checked.prog).any (Tryz.pinned.checked.prog.loopsFrom ·))=true:=by kernel_rfl
theorem GQ:(Rows.vtodoOrderRow.wideKeys==(Tryz.f5.params.toList++Rows.vtodoOrderSpec.plain.varTypes Tryz.pinned.checked.prog++Tryz.f5.resultTypes.toList).any (Tryz.pinned.checked.prog.wideKeysFrom ·))=true:=by kernel_rfl
theorem GR:Rows.vtodoOrderSpec.vars.all (Tryz.pinned.checked.prog.varReadable ·)=true:=by kernel_rfl
theorem GS:Tryz.f5.resultTypes.all (fun t=>Tryz.pinned.checked.prog.readableRec t&&decide (t<Tryz.pinned.checked.prog.types.size))=true:=by kernel_rfl
theorem GT:(Rows.vtodoOrderRow.ifacesOut==Tryz.f5.resultTypes.toList.any (Tryz.pinned.checked.prog.ifacesRec ·))=true:=by kernel_rfl
theorem GU:(Rows.vtodoOrderRow.loopsOut==Tryz.f5.resultTypes.toList.any (Tryz.pinned.checked.prog.loopsFrom ·))=true:=by kernel_rfl
theorem GV:(Rows.vtodoOrderRow.plainKeys==Tryz.pinned.checked.prog.plainKeys)=true:=by kernel_rfl
theorem GW:Rows.vtodoOrderRow.shortTexts.isNone=true:=by kernel_rfl
theorem GX:Tryz.pinned.checked.prog.stopsHeard=true:=by kernel_rfl
theorem GY:Tryz.pinned.checked.prog.mayEnter=true:=by kernel_rfl
theorem GZ:(Rows.vtodoOrderRow.lifted==Tryz.pinned.checked.prog.liftsFinal)=true:=by kernel_rfl
theorem H0:(Tryz.pinned.checked.prog.make==some Rows.vtodoOrderRow.make)=true:=by kernel_rfl
theorem H1:(Rows.vtodoOrderRow.pinned==Rows.vtodoOrderRow.pinnedBy)=true:=by kernel_rfl
theorem H2:(Rows.vtodoOrderRow.veiled==(Tryz.f5.params.toList++Rows.vtodoOrderSpec.plain.varTypes Tryz.pinned.checked.prog++Tryz.f5.resultTypes.toList).any (Tryz.pinned.checked.prog.veiledRec ·))=true:=by kernel_rfl
theorem H4:Rows.vtodoOrderRow.veiledFits Tryz.pinned.checked.prog Tryz.f5.params.toList (Tryz.f5.params.toList++Rows.vtodoOrderSpec.plain.varTypes Tryz.pinned.checked.prog++Tryz.f5.resultTypes.toList)=true:=by kernel_rfl
end Go.Proofs.YtcjeehebikeghaaGreatDoor
