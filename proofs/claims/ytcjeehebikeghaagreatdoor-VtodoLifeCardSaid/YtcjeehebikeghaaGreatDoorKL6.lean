/- The statement VtodoLife holds at every input: what the row tells of the code. No conditions. -/
import Derived.Test.YtcjeehebikeghaaGreatDoorLA
set_option linter.unusedVariables false
set_option linter.unusedSimpArgs false
set_option maxRecDepth 100000
set_option maxHeartbeats 4000000
namespace Go.Proofs.YtcjeehebikeghaaGreatDoor
open Go.Vs Go.Vs.YtcjeehebikeghaaGreatDoor Go.RowKit Go.ChangeShapes Go.WideShapes
theorem Mb:(Rows.vtodoLifeRow.unfollowed==Tryz.pinned.checked.prog.unfollowed 7)=true:=by kernel_rfl
theorem Mc:(Rows.vtodoLifeRow.recurses==Tryz.pinned.checked.prog.recurses 7)=true:=by kernel_rfl
theorem Md:(Rows.vtodoLifeRow.named==Tryz.pinned.checked.prog.varsNamed 7)=true:=by kernel_rfl
theorem Me:Rows.vtodoLifeRow.wfByText (OpenSpec.ofChange Rows.vtodoLifeSpec)=true:=by kernel_rfl
theorem Mf:Tryz.pinned.checked.prog.mainIs=some (Rows.vtodoLifeCard.stood.harness.1,Rows.vtodoLifeCard.stood.harness.2.toList):=by kernel_rfl
theorem Mg:Tryz.prog.funcNamed "errand/errandlaw29.VtodoLife" = some 7:=by kernel_rfl
theorem Mh:Rows.vtodoLifeCard.stood.looks=Tryz.pinned.checked.prog.looks []:=by kernel_rfl
theorem Mi:false=Rows.vtodoLifeRow.goesBy Tryz.pinned.checked.prog:=by kernel_rfl
end Go.Proofs.YtcjeehebikeghaaGreatDoor
