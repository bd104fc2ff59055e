/- A part of a proof. No conditions. -/
import Derived.Test.YtcjeehebikeghaaGreatDoorLAz
set_option linter.unusedVariables false
set_option linter.unusedSimpArgs false
set_option maxRecDepth 100000
set_option maxHeartbeats 4000000
namespace Go.Proofs.YtcjeehebikeghaaGreatDoor
open Go.Vs Go.Vs.YtcjeehebikeghaaGreatDoor Go.RowKit Go.ChangeShapes Go.WideShapes
theorem afJ:(Rows.vtodoWritesRow.unfollowed==Tryz.pinned.checked.prog.unfollowed 4)=true:=by kernel_rfl
theorem afK:(Rows.vtodoWritesRow.recurses==Tryz.pinned.checked.prog.recurses 4)=true:=by kernel_rfl
theorem afL:(Rows.vtodoWritesRow.named==Tryz.pinned.checked.prog.varsNamed 4)=true:=by kernel_rfl
theorem afM:Rows.vtodoWritesRow.wfByText (OpenSpec.ofChange Rows.vtodoWritesSpec)=true:=by kernel_rfl
theorem afN:Tryz.pinned.checked.prog.mainIs=some (Rows.vtodoWritesCard.stood.harness.1,Rows.vtodoWritesCard.stood.harness.2.toList):=by kernel_rfl
theorem afO:Tryz.prog.funcNamed "errand/errandlaw29.VtodoWrites" = some 4:=by kernel_rfl
theorem afP:Rows.vtodoWritesCard.stood.looks=Tryz.pinned.checked.prog.looks []:=by kernel_rfl
theorem afQ:false=Rows.vtodoWritesRow.goesBy Tryz.pinned.checked.prog:=by kernel_rfl
end Go.Proofs.YtcjeehebikeghaaGreatDoor
