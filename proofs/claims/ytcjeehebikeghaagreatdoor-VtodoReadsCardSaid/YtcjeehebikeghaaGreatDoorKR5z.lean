/- A part of a proof. No conditions. -/
import Derived.Test.YtcjeehebikeghaaGreatDoorLAz
set_option linter.unusedVariables false
set_option linter.unusedSimpArgs false
set_option maxRecDepth 100000
set_option maxHeartbeats 4000000
namespace Go.Proofs.YtcjeehebikeghaaGreatDoor
open Go.Vs Go.Vs.YtcjeehebikeghaaGreatDoor Go.RowKit Go.ChangeShapes Go.WideShapes
theorem Ls:Rows.vtodoReadsRow.wf (OpenSpec.ofChange Rows.vtodoReadsSpec)=true:=by kernel_rfl
theorem Lt:laidOutB Tryz.pinned.checked.prog=true:=by kernel_rfl
theorem Lu:mapsRowed Tryz.pinned.checked.prog=true:=by kernel_rfl
theorem Lv:Tryz.f3.params.all (Tryz.pinned.checked.prog.readableRec ·)=true:=by kernel_rfl
theorem Lw:namedTie Tryz.pinned.checked.prog Rows.vtodoReadsRow.named Rows.vtodoReadsSpec.vars=true:=by kernel_rfl
theorem Lx:(Rows.vtodoReadsRow.stops == [])=true:=by kernel_rfl
theorem Ly:(Tryz.pinned.checked.prog.stops == [])=true:=by kernel_rfl
theorem Lz:(Rows.vtodoReadsRow.knobs == [])=true:=by kernel_rfl
theorem LA:(Tryz.pinned.checked.prog.stopKnobs == [])=true:=by kernel_rfl
theorem JO:(Rows.vtodoReadsRow.maps==(Tryz.f3.params.toList++Rows.vtodoReadsSpec.plain.varTypes Tryz.pinned.checked.prog).any (Tryz.pinned.checked.prog.mapsRec ·))=true:=by kernel_rfl
theorem JP:(Rows.vtodoReadsRow.ifaces==(Tryz.f3.params.toList++Rows.vtodoReadsSpec.plain.varTypes Tryz.pinned.checked.prog).any (Tryz.pinned.checked.prog.ifacesRec ·))=true:=by kernel_rfl
theorem JQ:(Rows.vtodoReadsRow.mapsOut==Tryz.pinned.checked.prog.mapsAmong Tryz.f3.resultTypes.toList)=true:=by kernel_rfl
theorem JR:(Rows.vtodoReadsRow.loops==(Tryz.f3.params.toList++Rows.vtodoReadsSpec.plain.varTypes Tryz.pinned.checked.prog).any (Tryz.pinned.checked.prog.loopsFrom ·))=true:=by kernel_rfl
theorem JS:(Rows.vtodoReadsRow.wideKeys==(Tryz.f3.params.toList++Rows.vtodoReadsSpec.plain.varTypes Tryz.pinned.checked.prog++Tryz.f3.resultTypes.toList).any (Tryz.pinned.checked.prog.wideKeysFrom ·))=true:=by kernel_rfl
theorem JT:Rows.vtodoReadsSpec.vars.all (Tryz.pinned.checked.prog.varReadable ·)=true:=by kernel_rfl
theorem JU:Tryz.f3.resultTypes.all (fun t=>Tryz.pinned.checked.prog.readableRec t&&decide (t<Tryz.pinned.checked.prog.types.size))=true:=by kernel_rfl
theorem JV:(Rows.vtodoReadsRow.ifacesOut==Tryz.f3.resultTypes.toList.any (Tryz.pinned.checked.prog.ifacesRec ·))=true:=by kernel_rfl
theorem JW:(Rows.vtodoReadsRow.loopsOut==Tryz.f3.resultTypes.toList.any (Tryz.pinned.checked.prog.loopsFrom ·))=true:=by kernel_rfl
theorem JX:(Rows.vtodoReadsRow.plainKeys==Tryz.pinned.checked.prog.plainKeys)=true:=by kernel_rfl
theorem JY:Rows.vtodoReadsRow.shortTexts.isNone=true:=by kernel_rfl
theorem K0:Tryz.pinned.checked.prog.stopsHeard=true:=by kernel_rfl
theorem K1:Tryz.pinned.checked.prog.mayEnter=true:=by kernel_rfl
theorem K2:(Rows.vtodoReadsRow.lifted==Tryz.pinned.checked.prog.liftsFinal)=true:=by kernel_rfl
theorem K3:(Tryz.pinned.checked.prog.make==some Rows.vtodoReadsRow.make)=true:=by kernel_rfl
theorem K4:(Rows.vtodoReadsRow.pinned==Rows.vtodoReadsRow.pinnedBy)=true:=by kernel_rfl
theorem K5:(Rows.vtodoReadsRow.veiled==(Tryz.f3.params.toList++Rows.vtodoReadsSpec.plain.varTypes Tryz.pinned.checked.prog++Tryz.f3.resultTypes.toList).any (Tryz.pinned.checked.prog.veiledRec ·))=true:=by kernel_rfl
theorem K6:Rows.vtodoReadsRow.veiledFits Tryz.pinned.checked.prog Tryz.f3.params.toList (Tryz.f3.params.toList++Rows.vtodoReadsSpec.plain.varTypes Tryz.pinned.checked.prog++Tryz.f3.resultTypes.toList)=true:=by kernel_rfl
end Go.Proofs.YtcjeehebikeghaaGreatDoor
