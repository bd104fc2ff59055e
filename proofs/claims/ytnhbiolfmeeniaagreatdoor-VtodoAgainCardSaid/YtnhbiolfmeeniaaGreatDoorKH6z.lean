/- A part of a proof. No conditions. -/
import Derived.Test.YtnhbiolfmeeniaaGreatDoorLAz
set_option linter.all false
set_option maxRecDepth 100000
set_option maxHeartbeats 4000000
namespace Go.Proofs.YtnhbiolfmeeniaaGreatDoor
open Go.Vs Go.Vs.Y Go.RowKit Go.ChangeShapes Go.WideShapes
theorem Of:(Rows.vtodoAgainRow.unfollowed==Tryz.pinned.checked.prog.unfollowed 3)=true:=by kernel_rfl
theorem Og:(Rows.vtodoAgainRow.recurses==Tryz.pinned.checked.prog.recurses 3)=true:=by kernel_rfl
theorem Oh:(Rows.vtodoAgainRow.named==Tryz.pinned.checked.prog.varsNamed 3)=true:=by kernel_rfl
theorem Oi:Rows.vtodoAgainRow.wfByText (OpenSpec.ofChange Rows.vtodoAgainSpec)=true:=by kernel_rfl
theorem Oj:Tryz.pinned.checked.prog.mainIs=some (Rows.vtodoAgainCard.stood.harness.1,Rows.vtodoAgainCard.stood.harness.2.toList):=by kernel_rfl
theorem Ok:Tryz.prog.funcNamed "errand/errandlaw29.VtodoAgain" = some 3:=by kernel_rfl
theorem Ol:Rows.vtodoAgainCard.stood.looks=Tryz.pinned.checked.prog.looks []:=by kernel_rfl
theorem Om:false=Rows.vtodoAgainRow.goesBy Tryz.pinned.checked.prog:=by kernel_rfl
end Go.Proofs.YtnhbiolfmeeniaaGreatDoor
