/- The statement TreeEnds holds at every input: what the row tells of the code. No conditions. -/
import Derived.Test.YtnddjffndeaiiaaGreatDoorLB
set_option linter.unusedVariables false
set_option linter.unusedSimpArgs false
set_option maxRecDepth 100000
set_option maxHeartbeats 4000000
namespace Go.Proofs.YtnddjffndeaiiaaGreatDoor
open Go.Vs Go.Vs.YtnddjffndeaiiaaGreatDoor Go.RowKit Go.ChangeShapes Go.WideShapes
theorem ET:(Rows.treeEndsRow.unfollowed==Tryz.pinned.checked.prog.unfollowed 6)=true:=by kernel_rfl
theorem EU:(Rows.treeEndsRow.recurses==Tryz.pinned.checked.prog.recurses 6)=true:=by kernel_rfl
theorem EV:(Rows.treeEndsRow.named==Tryz.pinned.checked.prog.varsNamed 6)=true:=by kernel_rfl
end Go.Proofs.YtnddjffndeaiiaaGreatDoor
