/- A part of a proof. No conditions. -/
import Derived.Test.YtcjeehebikeghaaGreatDoorLA
set_option linter.unusedVariables false
set_option linter.unusedSimpArgs false
set_option maxRecDepth 100000
set_option maxHeartbeats 4000000
namespace Go.Proofs.YtcjeehebikeghaaGreatDoor
open Go.Vs Go.Vs.YtcjeehebikeghaaGreatDoor Go.RowKit Go.ChangeShapes Go.WideShapes
theorem F9:Rows.vtodoAloneRow.wf (OpenSpec.ofChange Rows.vtodoAloneSpec)=true:=by kernel_rfl
theorem Fa:laidOutB Tryz.pinned.checked.prog=true:=by kernel_rfl
theorem Fb:mapsRowed Tryz.pinned.checked.prog=true:=by kernel_rfl
theorem Fd:Tryz.f6.params.all (Tryz.pinned.checked.prog.readableRec ·)=true:=by kernel_rfl
theorem Fe:namedTie Tryz.pinned.checked.prog Rows.vtodoAloneRow.named Rows.vtodoAloneSpec.vars=true:=by kernel_rfl
theorem Ff:(Rows.vtodoAloneRow.stops == [])=true:=by kernel_rfl
theorem Fg:(Tryz.pinned.checked.prog.stops == [])=true:=by kernel_rfl
theorem Fh:(Rows.vtodoAloneRow.knobs == [])=true:=by kernel_rfl
theorem Fi:(Tryz.pinned.checked.prog.stopKnobs == [])=true:=by kernel_rfl
theorem Eb:(Rows.vtodoAloneRow.maps==(Tryz.f6.params.toList++Rows.vtodoAloneSpec.plain.varTypes Tryz.pinned.checked.prog).any (Tryz.pinned.checked.prog.mapsRec ·))=true:=by kernel_rfl
theorem Ec:(Rows.vtodoAloneRow.ifaces==(Tryz.f6.params.toList++Rows.vtodoAloneSpec.plain.varTypes Tryz.pinned.checked.prog).any (Tryz.pinned.checked.prog.ifacesRec ·))=true:=by kernel_rfl
theorem Ed:(Rows.vtodoAloneRow.mapsOut==Tryz.pinned.checked.prog.mapsAmong Tryz.f6.resultTypes.toList)=true:=by kernel_rfl
theorem Ee:(Rows.vtodoAloneRow.loops==(Tryz.f6.params.toList++Rows.vtodoAloneSpec.plain.varTypes Tryz.pinned.checked.prog).any (Tryz.pinned.checked.prog.loopsFrom ·))=true:=by kernel_rfl
theorem Ef:(Rows.vtodoAloneRow.wideKeys==(Tryz.f6.params.toList++Rows.vtodoAloneSpec.plain.varTypes Tryz.pinned.checked.prog++Tryz.f6.resultTypes.toList).any (Tryz.pinned.checked.prog.wideKeysFrom ·))=true:=by kernel_rfl
theorem Eg:Rows.vtodoAloneSpec.vars.all (Tryz.pinned.checked.prog.varReadable ·)=true:=by kernel_rfl
theorem Eh:Tryz.f6.resultTypes.all (fun t=>Tryz.pinned.checked.prog.readableRec t&&decide (t<Tryz.pinned.checked.prog.types.size))=true:=by kernel_rfl
theorem Ei:(Rows.vtodoAloneRow.ifacesOut==Tryz.f6.resultTypes.toList.any (Tryz.pinned.checked.prog.ifacesRec ·))=true:=by kernel_rfl
theorem Ej:(Rows.vtodoAloneRow.loopsOut==Tryz.f6.resultTypes.toList.any (Tryz.pinned.checked.prog.loopsFrom ·))=true:=by kernel_rfl
theorem Ek:(Rows.vtodoAloneRow.plainKeys==Tryz.pinned.checked.prog.plainKeys)=true:=by kernel_rfl
theorem El:Rows.vtodoAloneRow.shortTexts.isNone=true:=by kernel_rfl
theorem Em:Tryz.pinned.checked.prog.stopsHeard=true:=by kernel_rfl
theorem En:Tryz.pinned.checked.prog.mayEnter=true:=by kernel_rfl
theorem Eo:(Rows.vtodoAloneRow.lifted==Tryz.pinned.checked.prog.liftsFinal)=true:=by kernel_rfl
theorem Ep:(Tryz.pinned.checked.prog.make==some Rows.vtodoAloneRow.make)=true:=by kernel_rfl
theorem Er:(Rows.vtodoAloneRow.pinned==Rows.vtodoAloneRow.pinnedBy)=true:=by kernel_rfl
theorem Es:(Rows.vtodoAloneRow.veiled==(Tryz.f6.params.toList++Rows.vtodoAloneSpec.plain.varTypes Tryz.pinned.checked.prog++Tryz.f6.resultTypes.toList).any (Tryz.pinned.checked.prog.veiledRec ·))=true:=by kernel_rfl
theorem Et:Rows.vtodoAloneRow.veiledFits Tryz.pinned.checked.prog Tryz.f6.params.toList (Tryz.f6.params.toList++Rows.vtodoAloneSpec.plain.varTypes Tryz.pinned.checked.prog++Tryz.f6.resultTypes.toList)=true:=by kernel_rfl
end Go.Proofs.YtcjeehebikeghaaGreatDoor
