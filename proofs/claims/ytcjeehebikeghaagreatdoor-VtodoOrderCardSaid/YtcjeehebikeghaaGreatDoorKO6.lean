/- The statement VtodoOrder holds at every input: what the row tells of the code. No conditions. -/
import Derived.Test.YtcjeehebikeghaaGreatDoorLA
set_option linter.unusedVariables false
set_option linter.unusedSimpArgs false
set_option maxRecDepth 100000
set_option maxHeartbeats 4000000
namespace Go.Proofs.YtcjeehebikeghaaGreatDoor
open Go.Vs Go.Vs.YtcjeehebikeghaaGreatDoor Go.RowKit Go.ChangeShapes Go.WideShapes
theorem Ik:(Rows.vtodoOrderRow.unfollowed==Tryz.pinned.checked.prog.unfollowed 5)=true:=by kernel_rfl
theorem Il:(Rows.vtodoOrderRow.recurses==Tryz.pinned.checked.prog.recurses 5)=true:=by kernel_rfl
theorem Im:(Rows.vtodoOrderRow.named==Tryz.pinned.checked.prog.varsNamed 5)=true:=by kernel_rfl
theorem In:Rows.vtodoOrderRow.wfByText (OpenSpec.ofChange Rows.vtodoOrderSpec)=true:=by kernel_rfl
theorem Io:Tryz.pinned.checked.prog.mainIs=some (Rows.vtodoOrderCard.stood.harness.1,Rows.vtodoOrderCard.stood.harness.2.toList):=by kernel_rfl
theorem Ip:Tryz.prog.funcNamed "errand/errandlaw29.VtodoOrder" = some 5:=by kernel_rfl
theorem Iq:Rows.vtodoOrderCard.stood.looks=Tryz.pinned.checked.prog.looks []:=by kernel_rfl
theorem Ir:false=Rows.vtodoOrderRow.goesBy Tryz.pinned.checked.prog:=by kernel_rfl
end Go.Proofs.YtcjeehebikeghaaGreatDoor
