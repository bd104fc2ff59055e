/- The statement TreeTells holds at every input: what the row tells of the code. No conditions. -/
import Derived.Test.YtnddjffndeaiiaaGreatDoorLB
set_option linter.unusedVariables false
set_option linter.unusedSimpArgs false
set_option maxRecDepth 100000
set_option maxHeartbeats 4000000
namespace Go.Proofs.YtnddjffndeaiiaaGreatDoor
open Go.Vs Go.Vs.YtnddjffndeaiiaaGreatDoor Go.RowKit Go.ChangeShapes Go.WideShapes
theorem CX:(Rows.treeTellsRow.unfollowed==Tryz.pinned.checked.prog.unfollowed 4)=true:=by kernel_rfl
theorem CY:(Rows.treeTellsRow.recurses==Tryz.pinned.checked.prog.recurses 4)=true:=by kernel_rfl
theorem CZ:(Rows.treeTellsRow.named==Tryz.pinned.checked.prog.varsNamed 4)=true:=by kernel_rfl
end Go.Proofs.YtnddjffndeaiiaaGreatDoor
