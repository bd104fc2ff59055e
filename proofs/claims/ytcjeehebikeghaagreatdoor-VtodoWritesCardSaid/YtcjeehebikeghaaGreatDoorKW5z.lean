/- A part of a proof. No conditions. -/
import Derived.Test.YtcjeehebikeghaaGreatDoorLAz
set_option linter.unusedVariables false
set_option linter.unusedSimpArgs false
set_option maxRecDepth 100000
set_option maxHeartbeats 4000000
namespace Go.Proofs.YtcjeehebikeghaaGreatDoor
open Go.Vs Go.Vs.YtcjeehebikeghaaGreatDoor Go.RowKit Go.ChangeShapes Go.WideShapes
theorem afA:Rows.vtodoWritesRow.wf (OpenSpec.ofChange Rows.vtodoWritesSpec)=true:=by kernel_rfl
theorem afB:laidOutB Tryz.pinned.checked.prog=true:=by kernel_rfl
theorem afC:mapsRowed Tryz.pinned.checked.prog=true:=by kernel_rfl
theorem afD:Tryz.f4.params.all (Tryz.pinned.checked.prog.readableRec ·)=true:=by kernel_rfl
theorem afE:namedTie Tryz.pinned.checked.prog Rows.vtodoWritesRow.named Rows.vtodoWritesSpec.vars=true:=by kernel_rfl
theorem afF:(Rows.vtodoWritesRow.stops == [])=true:=by kernel_rfl
theorem afG:(Tryz.pinned.checked.prog.stops == [])=true:=by kernel_rfl
theorem afH:(Rows.vtodoWritesRow.knobs == [])=true:=by kernel_rfl
theorem afI:(Tryz.pinned.checked.prog.stopKnobs == [])=true:=by kernel_rfl
theorem afa:(Rows.vtodoWritesRow.maps==(Tryz.f4.params.toList++Rows.vtodoWritesSpec.plain.varTypes Tryz.pinned.checked.prog).any (Tryz.pinned.checked.prog.mapsRec ·))=true:=by kernel_rfl
theorem afb:(Rows.vtodoWritesRow.ifaces==(Tryz.f4.params.toList++Rows.vtodoWritesSpec.plain.varTypes Tryz.pinned.checked.prog).any (Tryz.pinned.checked.prog.ifacesRec ·))=true:=by kernel_rfl
theorem afc:(Rows.vtodoWritesRow.mapsOut==Tryz.pinned.checked.prog.mapsAmong Tryz.f4.resultTypes.toList)=true:=by kernel_rfl
theorem afd:(Rows.vtodoWritesRow.loops==(Tryz.f4.params.toList++Rows.vtodoWritesSpec.plain.varTypes Tryz.pinned.checked.prog).any (Tryz.pinned.checked.prog.loopsFrom ·))=true:=by kernel_rfl
theorem afe:(Rows.vtodoWritesRow.wideKeys==(Tryz.f4.params.toList++Rows.vtodoWritesSpec.plain.varTypes Tryz.pinned.checked.prog++Tryz.f4.resultTypes.toList).any (Tryz.pinned.checked.prog.wideKeysFrom ·))=true:=by kernel_rfl
theorem aff:Rows.vtodoWritesSpec.vars.all (Tryz.pinned.checked.prog.varReadable ·)=true:=by kernel_rfl
theorem afg:Tryz.f4.resultTypes.all (fun t=>Tryz.pinned.checked.prog.readableRec t&&decide (t<Tryz.pinned.checked.prog.types.size))=true:=by kernel_rfl
theorem afh:(Rows.vtodoWritesRow.ifacesOut==Tryz.f4.resultTypes.toList.any (Tryz.pinned.checked.prog.ifacesRec ·))=true:=by kernel_rfl
theorem afi:(Rows.vtodoWritesRow.loopsOut==Tryz.f4.resultTypes.toList.any (Tryz.pinned.checked.prog.loopsFrom ·))=true:=by kernel_rfl
theorem afj:(Rows.vtodoWritesRow.plainKeys==Tryz.pinned.checked.prog.plainKeys)=true:=by kernel_rfl
theorem afk:Rows.vtodoWritesRow.shortTexts.isNone=true:=by kernel_rfl
theorem afl:Tryz.pinned.checked.prog.stopsHeard=true:=by kernel_rfl
theorem afm:Tryz.pinned.checked.prog.mayEnter=true:=by kernel_rfl
theorem afn:(Rows.vtodoWritesRow.lifted==Tryz.pinned.checked.prog.liftsFinal)=true:=by kernel_rfl
theorem afo:(Tryz.pinned.checked.prog.make==some Rows.vtodoWritesRow.make)=true:=by kernel_rfl
theorem afp:(Rows.vtodoWritesRow.pinned==Rows.vtodoWritesRow.pinnedBy)=true:=by kernel_rfl
theorem afq:(Rows.vtodoWritesRow.veiled==(Tryz.f4.params.toList++Rows.vtodoWritesSpec.plain.varTypes Tryz.pinned.checked.prog++Tryz.f4.resultTypes.toList).any (Tryz.pinned.checked.prog.veiledRec ·))=true:=by kernel_rfl
theorem afr:Rows.vtodoWritesRow.veiledFits Tryz.pinned.checked.prog Tryz.f4.params.toList (Tryz.f4.params.toList++Rows.vtodoWritesSpec.plain.varTypes Tryz.pinned.checked.prog++Tryz.f4.resultTypes.toList)=true:=by kernel_rfl
end Go.Proofs.YtcjeehebikeghaaGreatDoor
