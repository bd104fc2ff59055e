/- A part of a proof. No conditions. -/
import Derived.Test.YtcjeehebikeghaaGreatDoorLAz
set_option linter.unusedVariables false
set_option linter.unusedSimpArgs false
set_option maxRecDepth 100000
set_option maxHeartbeats 4000000
namespace Go.Proofs.YtcjeehebikeghaaGreatDoor
open Go.Vs Go.Vs.YtcjeehebikeghaaGreatDoor Go.RowKit Go.ChangeShapes Go.WideShapes
theorem LC:(Rows.vtodoReadsRow.unfollowed==Tryz.pinned.checked.prog.unfollowed 3)=true:=by kernel_rfl
theorem LD:(Rows.vtodoReadsRow.recurses==Tryz.pinned.checked.prog.recurses 3)=true:=by kernel_rfl
theorem LF:(Rows.vtodoReadsRow.named==Tryz.pinned.checked.prog.varsNamed 3)=true:=by kernel_rfl
theorem LG:Rows.vtodoReadsRow.wfByText (OpenSpec.ofChange Rows.vtodoReadsSpec)=true:=by kernel_rfl
theorem LH:Tryz.pinned.checked.prog.mainIs=some (Rows.vtodoReadsCard.stood.harness.1,Rows.vtodoReadsCard.stood.harness.2.toList):=by kernel_rfl
theorem LI:Tryz.prog.funcNamed "errand/errandlaw29.VtodoReads" = some 3:=by kernel_rfl
theorem LJ:Rows.vtodoReadsCard.stood.looks=Tryz.pinned.checked.prog.looks []:=by kernel_rfl
theorem LL:false=Rows.vtodoReadsRow.goesBy Tryz.pinned.checked.prog:=by kernel_rfl
end Go.Proofs.YtcjeehebikeghaaGreatDoor
