/- A part of a proof. No conditions. -/
import Derived.Test.YtcjeehebikeghaaGreatDoorLA
set_option linter.unusedVariables false
set_option linter.unusedSimpArgs false
set_option maxRecDepth 100000
set_option maxHeartbeats 4000000
namespace Go.Proofs.YtcjeehebikeghaaGreatDoor
open Go.Vs Go.Vs.YtcjeehebikeghaaGreatDoor Go.RowKit Go.ChangeShapes Go.WideShapes
theorem Fj:(Rows.vtodoAloneRow.unfollowed==Tryz.pinned.checked.prog.unfollowed 6)=true:=by kernel_rfl
theorem Fk:(Rows.vtodoAloneRow.recurses==Tryz.pinned.checked.prog.recurses 6)=true:=by kernel_rfl
theorem Fl:(Rows.vtodoAloneRow.named==Tryz.pinned.checked.prog.varsNamed 6)=true:=by kernel_rfl
theorem Fm:Rows.vtodoAloneRow.wfByText (OpenSpec.ofChange Rows.vtodoAloneSpec)=true:=by kernel_rfl
theorem Fo:Tryz.pinned.checked.prog.mainIs=some (Rows.vtodoAloneCard.stood.harness.1,Rows.vtodoAloneCard.stood.harness.2.toList):=by kernel_rfl
theorem Fp:Tryz.prog.funcNamed "errand/errandlaw29.VtodoAlone" = some 6:=by kernel_rfl
theorem Fq:Rows.vtodoAloneCard.stood.looks=Tryz.pinned.checked.prog.looks []:=by kernel_rfl
theorem Fr:false=Rows.vtodoAloneRow.goesBy Tryz.pinned.checked.prog:=by kernel_rfl
end Go.Proofs.YtcjeehebikeghaaGreatDoor
