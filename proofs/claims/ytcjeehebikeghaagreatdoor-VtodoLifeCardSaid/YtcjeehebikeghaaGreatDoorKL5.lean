/- The statement VtodoLife holds at every input: more of what the row tells. No conditions. -/
import Derived.Test.YtcjeehebikeghaaGreatDoorLA
set_option linter.unusedVariables false
set_option linter.unusedSimpArgs false
set_option maxRecDepth 100000
set_option maxHeartbeats 4000000
namespace Go.Proofs.YtcjeehebikeghaaGreatDoor
open Go.Vs Go.Vs.YtcjeehebikeghaaGreatDoor Go.RowKit Go.ChangeShapes Go.WideShapes
theorem LZ:Rows.vtodoLifeRow.wf (OpenSpec.ofChange Rows.vtodoLifeSpec)=true:=by kernel_rfl
theorem M0:laidOutB Tryz.pinned.checked.prog=true:=by kernel_rfl
theorem M3:mapsRowed Tryz.pinned.checked.prog=true:=by kernel_rfl
theorem M4:Tryz.f7.params.all (Tryz.pinned.checked.prog.readableRec ·)=true:=by kernel_rfl
theorem M6:namedTie Tryz.pinned.checked.prog Rows.vtodoLifeRow.named Rows.vtodoLifeSpec.vars=true:=by kernel_rfl
theorem M7:(Rows.vtodoLifeRow.stops == [])=true:=by kernel_rfl
theorem M8:(Tryz.pinned.checked.prog.stops == [])=true:=by kernel_rfl
theorem M9:(Rows.vtodoLifeRow.knobs == [])=true:=by kernel_rfl
theorem Ma:(Tryz.pinned.checked.prog.stopKnobs == [])=true:=by kernel_rfl
theorem Is:(Rows.vtodoLifeRow.maps==(Tryz.f7.params.toList++Rows.vtodoLifeSpec.plain.varTypes Tryz.pinned.checked.prog).any (Tryz.pinned.checked.prog.mapsRec ·))=true:=by kernel_rfl
theorem It:(Rows.vtodoLifeRow.ifaces==(Tryz.f7.params.toList++Rows.vtodoLifeSpec.plain.varTypes Tryz.pinned.checked.prog).any (Tryz.pinned.checked.prog.ifacesRec ·))=true:=by kernel_rfl
theorem Iu:(Rows.vtodoLifeRow.mapsOut==Tryz.pinned.checked.prog.mapsAmong Tryz.f7.resultTypes.toList)=true:=by kernel_rfl
theorem Iv:(Rows.vtodoLifeRow.loops==(Tryz.f7.params.toList++Rows.vtodoLifeSpec.plain.varTypes Tryz.pinned.checked.prog).any (Tryz.pinned.checked.prog.loopsFrom ·))=true:=by kernel_rfl
theorem Iw:(Rows.vtodoLifeRow.wideKeys==(Tryz.f7.params.toList++Rows.vtodoLifeSpec.plain.varTypes Tryz.pinned.checked.prog++Tryz.f7.resultTypes.toList).any (Tryz.pinned.checked.prog.wideKeysFrom ·))=true:=by kernel_rfl
theorem Ix:Rows.vtodoLifeSpec.vars.all (Tryz.pinned.checked.prog.varReadable ·)=true:=by kernel_rfl
theorem Iy:Tryz.f7.resultTypes.all (fun t=>Tryz.pinned.checked.prog.readableRec t&&decide (t<Tryz.pinned.checked.prog.types.size))=true:=by kernel_rfl
theorem Iz:(Rows.vtodoLifeRow.ifacesOut==Tryz.f7.resultTypes.toList.any (Tryz.pinned.checked.prog.ifacesRec ·))=true:=by kernel_rfl
theorem IA:(Rows.vtodoLifeRow.loopsOut==Tryz.f7.resultTypes.toList.any (Tryz.pinned.checked.prog.loopsFrom ·))=true:=by kernel_rfl
theorem IB:(Rows.vtodoLifeRow.plainKeys==Tryz.pinned.checked.prog.plainKeys)=true:=by kernel_rfl
theorem IC:Rows.vtodoLifeRow.shortTexts.isNone=true:=by kernel_rfl
theorem ID:Tryz.pinned.checked.prog.stopsHeard=true:=by kernel_rfl
theorem IE:Tryz.pinned.checked.prog.mayEnter=true:=by kernel_rfl
theorem IF:(Rows.vtodoLifeRow.lifted==Tryz.pinned.checked.prog.liftsFinal)=true:=by kernel_rfl
theorem IG:(Tryz.pinned.checked.prog.make==some Rows.vtodoLifeRow.make)=true:=by kernel_rfl
theorem IH:(Rows.vtodoLifeRow.pinned==Rows.vtodoLifeRow.pinnedBy)=true:=by kernel_rfl
theorem II:(Rows.vtodoLifeRow.veiled==(Tryz.f7.params.toList++Rows.vtodoLifeSpec.plain.varTypes Tryz.pinned.checked.prog++Tryz.f7.resultTypes.toList).any (Tryz.pinned.checked.prog.veiledRec ·))=true:=by kernel_rfl
theorem IJ:Rows.vtodoLifeRow.veiledFits Tryz.pinned.checked.prog Tryz.f7.params.toList (Tryz.f7.params.toList++Rows.vtodoLifeSpec.plain.varTypes Tryz.pinned.checked.prog++Tryz.f7.resultTypes.toList)=true:=by kernel_rfl
end Go.Proofs.YtcjeehebikeghaaGreatDoor
